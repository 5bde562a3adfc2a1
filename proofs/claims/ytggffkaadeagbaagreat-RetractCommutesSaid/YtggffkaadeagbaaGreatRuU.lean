/- A part of the proof, no condition: what lies in memory, read as memories. -/
import Derived.Test.YtggffkaadeagbaaGreatRuR
import Derived.Test.YtggffkaadeagbaaGreatEvP
set_option linter.all false
namespace Go.Proofs.YtggffkaadeagbaaGreat
open Go Go.Ev
variable {H : Type} {enc : TypeId × Value → H} {w : World} {sp : Nat → Bool} {held : Bool}
noncomputable def fieldsOf (t : TypeId) : Array Field := match Tryz.prog.underlying t with
  | some (.struct fs) => fs
  | _ => #[]
theorem und9 : Tryz.prog.underlying 9 = some .string := by kernel_rfl
theorem und29 : Tryz.prog.underlying 29 = some (.struct (fieldsOf 29)) := by kernel_rfl
theorem und84 : Tryz.prog.underlying 84 = some (.struct (fieldsOf 84)) := by kernel_rfl
theorem und52 : Tryz.prog.underlying 52 = some (.struct (fieldsOf 52)) := by kernel_rfl
theorem und50 : Tryz.prog.underlying 50 = some (.struct (fieldsOf 50)) := by kernel_rfl
theorem und63 : Tryz.prog.underlying 63 = some (.struct (fieldsOf 63)) := by kernel_rfl
theorem und48 : Tryz.prog.underlying 48 = some (.slice 84) := by kernel_rfl
theorem und47 : Tryz.prog.underlying 47 = some (.slice 3) := by kernel_rfl
theorem und26 : Tryz.prog.underlying 26 = some (.slice 52) := by kernel_rfl
theorem und27 : Tryz.prog.underlying 27 = some (.slice 63) := by kernel_rfl
theorem cl3 : Tryz.prog.cellsOf 3 = 1 := by kernel_rfl
theorem cl4 : Tryz.prog.cellsOf 4 = 1 := by kernel_rfl
theorem cl9 : Tryz.prog.cellsOf 9 = 1 := by kernel_rfl
theorem cl26 : Tryz.prog.cellsOf 26 = 1 := by kernel_rfl
theorem cl27 : Tryz.prog.cellsOf 27 = 1 := by kernel_rfl
theorem cl47 : Tryz.prog.cellsOf 47 = 1 := by kernel_rfl
theorem cl48 : Tryz.prog.cellsOf 48 = 1 := by kernel_rfl
theorem cl50 : Tryz.prog.cellsOf 50 = 2 := by kernel_rfl
theorem cl84 : Tryz.prog.cellsOf 84 = 4 := by kernel_rfl
theorem cl52 : Tryz.prog.cellsOf 52 = 4 := by kernel_rfl
theorem cl63 : Tryz.prog.cellsOf 63 = 6 := by kernel_rfl
theorem cl29 : Tryz.prog.cellsOf 29 = 5 := by kernel_rfl
def fld (t i ty off : Nat) : Prop := ((fieldsOf t)[i]?).map (fun f : Field => (f.type, f.offset)) = some (ty, off)
theorem f84v0 : fld 84 0 3 0 := by unfold fld; kernel_rfl
theorem f84v1 : fld 84 1 3 1 := by unfold fld; kernel_rfl
theorem f84v2 : fld 84 2 9 2 := by unfold fld; kernel_rfl
theorem f84v3 : fld 84 3 48 3 := by unfold fld; kernel_rfl
theorem f50v0 : fld 50 0 9 0 := by unfold fld; kernel_rfl
theorem f50v1 : fld 50 1 48 1 := by unfold fld; kernel_rfl
theorem f52v0 : fld 52 0 3 0 := by unfold fld; kernel_rfl
theorem f52v1 : fld 52 1 50 1 := by unfold fld; kernel_rfl
theorem f52v2 : fld 52 2 47 3 := by unfold fld; kernel_rfl
theorem f63v0 : fld 63 0 3 0 := by unfold fld; kernel_rfl
theorem f63v1 : fld 63 1 47 1 := by unfold fld; kernel_rfl
theorem f63v2 : fld 63 2 47 2 := by unfold fld; kernel_rfl
theorem f63v3 : fld 63 3 47 3 := by unfold fld; kernel_rfl
theorem f63v4 : fld 63 4 4 4 := by unfold fld; kernel_rfl
theorem f63v5 : fld 63 5 47 5 := by unfold fld; kernel_rfl
theorem f29v0 : fld 29 0 26 0 := by unfold fld; kernel_rfl
theorem f29v1 : fld 29 1 26 1 := by unfold fld; kernel_rfl
theorem f29v2 : fld 29 2 27 2 := by unfold fld; kernel_rfl
theorem f29v3 : fld 29 3 3 3 := by unfold fld; kernel_rfl
theorem f29v4 : fld 29 4 3 4 := by unfold fld; kernel_rfl
abbrev Rd (w : World) (c : IV) (u : Value) : Prop := Rv (frz (allM w)) c u
theorem rvl_one {c : IV} {u : Value} (h : Rd w c u) : RvL (frz (allM w)) [c] [u] := RvL.cons h RvL.nil
theorem rd_int {n : Nat} {u : Value} {x : DataW H × List MemPlace} (h : DataW.trod enc Tryz.prog w 0 sp held n 3 [u] = some x) : ∃ a : Int, Rd w (iI a) u := by
  obtain ⟨a, h1, _⟩ := DataW.trod_int und3 h
  obtain rfl := (List.cons.inj h1).1
  exact ⟨a, .raw _⟩
theorem rd_bool {n : Nat} {u : Value} {x : DataW H × List MemPlace} (h : DataW.trod enc Tryz.prog w 0 sp held n 4 [u] = some x) : ∃ a : Bool, Rd w (iB a) u := by
  obtain ⟨a, h1, _⟩ := DataW.trod_bool und4 h
  obtain rfl := (List.cons.inj h1).1
  exact ⟨a, .raw _⟩
theorem rd_ints {n : Nat} {u : Value} {x : DataW H × List MemPlace} (h : DataW.trod enc Tryz.prog w 0 sp held n 47 [u] = some x) : ∃ l : List Int, Sm l ∧ Rd w (iL l) u := by
  obtain ⟨l, h1, _, h3⟩ := read_slice (w := w) iI (s := 1) (by omega) (fun _ => rfl) (fun _ => True) und47 cl3 (fun n us x _ hx hl => by
    obtain ⟨u, rfl⟩ := List.length_eq_one_iff.1 hl
    obtain ⟨a, ha⟩ := rd_int hx
    exact ⟨a, trivial, rvl_one ha⟩) h
  exact ⟨l, h1, h3⟩
theorem list4 {α : Type} {l : List α} (h : l.length = 4) : ∃ a b c d, l = [a, b, c, d] := by
  match l, h with
  | [a, b, c, d], _ => exact ⟨a, b, c, d, rfl⟩
theorem list6 {α : Type} {l : List α} (h : l.length = 6) : ∃ a b c d e f, l = [a, b, c, d, e, f] := by
  match l, h with
  | [a, b, c, d, e, f], _ => exact ⟨a, b, c, d, e, f, rfl⟩
theorem list5 {α : Type} {l : List α} (h : l.length = 5) : ∃ a b c d e, l = [a, b, c, d, e] := by
  match l, h with
  | [a, b, c, d, e], _ => exact ⟨a, b, c, d, e, rfl⟩
theorem cellsT (t : Tm) : (cellsOf (encT t)).length = 4 := by rw [encT_eq]; rfl
theorem rd_P (fuel : Nat) (us : List Value) (x : DataW H × List MemPlace) (h : DataW.trod enc Tryz.prog w 0 sp held fuel 63 us = some x) (hl : us.length = 6) : ∃ f : Ap, WfP f ∧ RvL (frz (allM w)) (cellsOf (encP f)) us := by
  obtain ⟨a, b, c, d, e, f, rfl⟩ := list6 hl
  obtain ⟨n, hn, hf⟩ := struct_fld und63 h
  obtain ⟨_, h0⟩ := hf 0 3 0 1 f63v0 cl3
  obtain ⟨_, h1⟩ := hf 1 47 1 1 f63v1 cl47
  obtain ⟨_, h2⟩ := hf 2 47 2 1 f63v2 cl47
  obtain ⟨_, h3⟩ := hf 3 47 3 1 f63v3 cl47
  obtain ⟨_, h4⟩ := hf 4 4 4 1 f63v4 cl4
  obtain ⟨_, h5⟩ := hf 5 47 5 1 f63v5 cl47
  obtain ⟨rule, r0⟩ := rd_int h0
  obtain ⟨heads, w1, r1⟩ := rd_ints h1
  obtain ⟨gone, w2, r2⟩ := rd_ints h2
  obtain ⟨made, w3, r3⟩ := rd_ints h3
  obtain ⟨failed, r4⟩ := rd_bool h4
  obtain ⟨just, w5, r5⟩ := rd_ints h5
  exact ⟨⟨rule, heads, gone, made, failed, just⟩, ⟨w1, w2, w3, w5⟩, RvL.cons r0 (RvL.cons r1 (RvL.cons r2 (RvL.cons r3 (RvL.cons r4 (RvL.cons r5 RvL.nil)))))⟩
theorem rd_Ps {n : Nat} {u : Value} {x : DataW H × List MemPlace} (h : DataW.trod enc Tryz.prog w 0 sp held n 27 [u] = some x) : ∃ l : List Ap, Sm l ∧ (∀ f ∈ l, WfP f) ∧ Rd w (iPs l) u :=
  read_slice (w := w) encP (s := 6) (by omega) (fun _ => rfl) WfP und27 cl63 (fun n' us' x' _ hx' hl' => rd_P n' us' x' hx' hl') h
end Go.Proofs.YtggffkaadeagbaaGreat
