/- A part of the verified evaluator of closed runs (EvOps3): lemmas and definitions over the model, without conditions of their own. -/
import Derived.Test.YtcapkpeaofppnaaGreatDoorEvOps2
namespace Go.Ev
variable {P : Program} {N ro : Nat} {ι : Io} {w : World} {σ : St} {ρ : Operand → IV} {r : Operand → Value} {o : Oper} {out : OpOut}

theorem rv_raw {x : IV} {v u : Value} (hx : x = .raw v) (h : Rv ι x u) : u = v := by subst hx; cases h; rfl

theorem op_un {op : UnOp} {t : TypeId} {x : Operand} (hi : Inv N ι σ w) (hr : Rv ι (ρ x) (r x)) (ho : o.op = .unOp op t x) (h : evOp P ro ρ o σ = some out) : OutOk P ro N ι w σ r o out := by
  unfold evOp at h; rw [ho] at h; simp only at h
  split at h
  · rename_i v hx
    split at h
    · rename_i z hz
      obtain rfl := ret_val h
      have e := rv_raw hx hr
      have := pureRun_run w _ hz
      exact OutOk.same hi (u := z) (by simp [execOp, ho, e, this]) (Rv.lift z)
    · cases h
  · cases h

theorem op_convert {s t : TypeId} {x : Operand} (hi : Inv N ι σ w) (hr : Rv ι (ρ x) (r x)) (ho : o.op = .convert s t x) (h : evOp P ro ρ o σ = some out) : OutOk P ro N ι w σ r o out := by
  unfold evOp at h; rw [ho] at h; simp only at h
  split at h
  · rename_i v hx
    split at h
    · rename_i d hs hu
      obtain rfl := ret_val h
      have e := rv_raw hx hr
      refine OutOk.same hi (u := .string v) ?_ (.raw _)
      have : (convert s t (.string v)).run P w = .ok (.string v) w := by
        simp only [convert, Sem.run_bind, run_und hs, run_und hu, Result.andThen_ok]; rfl
      simp [execOp, ho, e, this]
    · cases h
  · rename_i v _ hx
    split at h
    · rename_i z hz
      obtain rfl := ret_val h
      have e := rv_raw hx hr
      have := pureRun_run w _ hz
      exact OutOk.same hi (u := z) (by simp [execOp, ho, e, this]) (Rv.lift z)
    · cases h
  · cases h

theorem op_makeInterface {t : TypeId} {x : Operand} (hi : Inv N ι σ w) (hr : Rv ι (ρ x) (r x)) (ho : o.op = .makeInterface t x) (h : evOp P ro ρ o σ = some out) : OutOk P ro N ι w σ r o out := by
  unfold evOp at h; rw [ho] at h; simp only at h
  split at h
  · cases h
  · rename_i d hd hu
    obtain rfl := ret_val h
    refine OutOk.same hi (u := .iface t (r x)) ?_ (.ifc _ _ _ hr)
    simp only [execOp, ho, Instr.makeInterface, Sem.run_bind, run_und hu, Result.andThen_ok]
    cases d <;> first | rfl | (exact absurd rfl (hd _))
  · cases h

theorem op_makeFunc {f : Fn} {first cap : Array Operand} (hi : Inv N ι σ w) (hr : ∀ x ∈ first ++ cap, Rv ι (ρ x) (r x)) (ho : o.op = .makeFunc f first cap) (h : evOp P ro ρ o σ = some out) : OutOk P ro N ι w σ r o out := by
  unfold evOp at h; rw [ho] at h; simp only at h
  obtain rfl := ret_val h
  have h1 : RvL ι (first.toList.map ρ) (first.toList.map r) := RvL.of_map fun a ha => hr a (by simp at ha ⊢; exact .inl ha)
  have h2 : RvL ι (cap.toList.map ρ) (cap.toList.map r) := RvL.of_map fun a ha => hr a (by simp at ha ⊢; exact .inr ha)
  refine OutOk.same hi (u := .func f (first.toList.map r).toArray (cap.toList.map r).toArray) ?_ (.fn _ _ _ _ _ h1.1 h1.2 h2.1 h2.2)
  simp only [execOp, ho, Instr.makeFunc, Sem.run_bind, Sem.run_pure, Result.andThen_ok]
  congr 3 <;> (apply Array.ext'; simp)

theorem op_extract {x : Operand} {i : Nat} (hi : Inv N ι σ w) (hr : Rv ι (ρ x) (r x)) (ho : o.op = .extract x i) (h : evOp P ro ρ o σ = some out) : OutOk P ro N ι w σ r o out := by
  unfold evOp at h; rw [ho] at h; simp only at h
  split at h
  · rename_i vs hx
    split at h
    · rename_i v hv
      obtain rfl := ret_val h
      rw [hx] at hr
      generalize hq : r x = q at hr
      cases hr with
      | tup _ us hl hh =>
        obtain ⟨u, hu, hru⟩ := RvL.get ⟨hl, hh⟩ hv
        exact OutOk.same hi (u := u) (by simp [execOp, ho, Instr.extract, hq, hu]) hru
    · cases h
  · rename_i vs hx
    split at h
    · rename_i v hv
      obtain rfl := ret_val h
      have e := rv_raw hx hr
      exact OutOk.same hi (u := v) (by simp [execOp, ho, Instr.extract, e, hv]) (.raw _)
    · cases h
  · cases h

theorem Inv.newMap (hi : Inv N ι σ w) (hN : σ.n < N) :
    Inv N (updI ι σ.n 0 ⟨w.heap.size, 1, 1⟩) (σ.add (.map [] 0)) { w with heap := w.heap.push (.map #[] 0) } ∧
    Le ro ι w σ (updI ι σ.n 0 ⟨w.heap.size, 1, 1⟩) { w with heap := w.heap.push (.map #[] 0) } (σ.add (.map [] 0)) := by
  refine hi.add hN rfl rfl rfl rfl rfl ⟨_, #[], updI_self _ _ _ _, by simp, by simp, fun i e r h => by simp at h⟩

theorem op_makeMap {t : TypeId} {x : Option Operand} (hi : Inv N ι σ w) (hr : ∀ y ∈ x.toArray, Rv ι (ρ y) (r y)) (ho : o.op = .makeMap t x) (h : evOp P ro ρ o σ = some out) : OutOk P ro N ι w σ r o out := by
  unfold evOp at h; rw [ho] at h; simp only at h
  have key : out = .val (.map σ.n) (σ.add (.map [] 0)) → (execOp r o).run P w = .ok (.value (.map (some w.heap.size))) { w with heap := w.heap.push (.map #[] 0) } → OutOk P ro N ι w σ r o out := by
    intro h1 h2
    subst h1
    intro hN
    obtain ⟨h3, h4⟩ := hi.newMap (ro := ro) (by simp at hN; omega)
    exact ⟨_, _, _, .inl h2, .map _ _ (updI_self _ _ _ _), h3, h4⟩
  split at h
  · exact key (ret_val h) (by simp [execOp, ho, Instr.makeMap])
  · rename_i y
    split at h
    · rename_i hu hx
      have e := rv_raw hx (hr _ (by simp))
      exact key (ret_val h) (by simp [execOp, ho, Instr.makeMap, run_und hu, e, asInt, asIntOf])
    · cases h

theorem op_fieldAddr {s : TypeId} {x : Operand} {f : Nat} (hi : Inv N ι σ w) (hr : Rv ι (ρ x) (r x)) (ho : o.op = .fieldAddr s x f) (h : evOp P ro ρ o σ = some out) : OutOk P ro N ι w σ r o out := by
  unfold evOp at h; rw [ho] at h; simp only at h
  split at h
  · rename_i fields hu
    split at h
    · rename_i fd hf
      split at h
      · rename_i sz id off ep ext hs hx
        split at h
        · rename_i hc
          obtain rfl := ret_val h
          rw [hx] at hr
          generalize hq : r x = q at hr
          cases hr with
          | ptr _ _ _ _ l hl hle =>
            refine OutOk.same hi (u := .pointer (some ⟨l.b, off + fd.offset, none⟩)) ?_ (.ptr _ _ _ _ l hl (by omega))
            simp [execOp, ho, Instr.fieldAt, run_und hu, hf, Instr.sureAddr, hq, fieldPlace, run_size hs, hc.1, add_none]
        · cases h
      · rename_i sz cs hs hx
        split at h
        · rename_i hc
          obtain rfl := ret_val h
          rw [hx] at hr
          generalize hq : r x = q at hr
          cases hr with
          | tptr _ b off us hu' hh =>
            refine OutOk.same hi (u := .pointer (some ⟨b, off + fd.offset, none⟩)) ?_ (.tptr _ _ _ (fun k => us (fd.offset + k)) (fun k hk => ?_) (fun j c hj => ?_))
            · simp [execOp, ho, Instr.fieldAt, run_und hu, hf, Instr.sureAddr, hq, fieldPlace, run_size hs, hc.1, add_none]
            · simp at hk
              rw [show off + fd.offset + k = off + (fd.offset + k) by omega]
              exact hu' _ (by omega)
            · rw [List.getElem?_take] at hj
              split at hj
              · exact hh _ c (by simpa using hj)
              · cases hj
        · cases h
      · cases h
    · cases h
  · cases h

theorem op_field {t : TypeId} {x : Operand} {f : Nat} (hi : Inv N ι σ w) (hr : Rv ι (ρ x) (r x)) (ho : o.op = .field t x f) (h : evOp P ro ρ o σ = some out) : OutOk P ro N ι w σ r o out := by
  unfold evOp at h; rw [ho] at h; simp only at h
  split at h
  · rename_i fields cs hu hx
    split at h
    · rename_i fd hf
      split at h
      · rename_i v hp
        obtain rfl := ret_val h
        rw [hx] at hr
        generalize hq : r x = q at hr
        cases hr with
        | agg _ us hl hh =>
          obtain ⟨u, h1, h2⟩ := run_part hp ⟨hl, hh⟩ w
          exact OutOk.same hi (u := u) (by simp [execOp, ho, Instr.field, run_und hu, hf, asAgg, hq, h1]) h2
      · cases h
    · cases h
  · cases h

theorem op_indexAddr {t : TypeId} {x ix : Operand} (hi : Inv N ι σ w) (hr : Rv ι (ρ x) (r x)) (hrx : Rv ι (ρ ix) (r ix)) (ho : o.op = .indexAddr t x ix) (h : evOp P ro ρ o σ = some out) : OutOk P ro N ι w σ r o out := by
  unfold evOp at h; rw [ho] at h; simp only at h
  split at h
  · rename_i elem k i hu hix
    have ei := rv_raw hix hrx
    split at h
    · rename_i id off len cap ep s hx
      split at h
      · rename_i hc
        obtain ⟨hs, h0, hlt⟩ := hc
        obtain rfl := ret_val h
        rw [hx] at hr
        generalize hq : r x = q at hr
        have hn : i.toNat < len := by omega
        have hmul : i.toNat * s + s ≤ len * s := by
          have : (i.toNat + 1) * s ≤ len * s := Nat.mul_le_mul_right s hn
          rw [Nat.add_mul] at this; omega
        cases hr with
        | sl _ _ _ _ _ _ l c a hl hle hlim hs0 hlc hcap ha =>
          have hmul2 : len * s ≤ c * s := Nat.mul_le_mul_right s hlc
          refine OutOk.same hi (u := .pointer (some ⟨l.b, off + i.toNat * s, none⟩)) ?_ (.ptr _ _ _ _ l hl (by omega))
          have ea := ha (by omega)
          subst ea
          simp [execOp, ho, Instr.indexAt, ei, asIntOf, run_und hu, hq, h0, hlt, run_size hs, add_none]
      · cases h
    · rename_i s es hx
      split at h
      · rename_i hc
        obtain ⟨hs, h0⟩ := hc
        split at h
        · rename_i e he
          split at h
          · rename_i hce
            obtain rfl := ret_val h
            rw [hx] at hr
            generalize hq : r x = q at hr
            have hlt := (List.getElem?_eq_some_iff.1 he).1
            have hlt' : i < es.length := by omega
            have hmul : i.toNat * s + s ≤ es.length * s := by
              have : (i.toNat + 1) * s ≤ es.length * s := Nat.mul_le_mul_right s hlt
              rw [Nat.add_mul] at this; omega
            cases hr with
            | tree _ _ b off c us hs0 hc hcs hu' hh =>
              refine OutOk.same hi (u := .pointer (some ⟨b, off + i.toNat * s, none⟩)) ?_ (.tptr _ _ _ (fun k => us (i.toNat * s + k)) (fun k hk => ?_) (fun j c hj => hh _ _ _ _ he hj))
              · simp [execOp, ho, Instr.indexAt, ei, asIntOf, run_und hu, hq, h0, hlt', run_size hs, add_none]
              · rw [show off + i.toNat * s + k = off + (i.toNat * s + k) by omega]
                exact hu' _ (by omega)
            | treeE => simp at hlt
          · cases h
        · cases h
      · cases h
    · cases h
  · rename_i n elem k i hu hix
    have ei := rv_raw hix hrx
    split at h
    · rename_i id off ep ext s hx hs
      split at h
      · rename_i hc
        obtain ⟨hs0, h0, hlt, hle'⟩ := hc
        obtain rfl := ret_val h
        rw [hx] at hr
        generalize hq : r x = q at hr
        cases hr with
        | ptr _ _ _ _ l hl hle =>
          refine OutOk.same hi (u := .pointer (some ⟨l.b, off + i.toNat * s, none⟩)) ?_ (.ptr _ _ _ _ l hl (by omega))
          simp [execOp, ho, Instr.indexAt, ei, asIntOf, run_und hu, hq, Instr.sureAddr, h0, hlt, run_size hs, add_none]
      · cases h
    · cases h
  · cases h

theorem op_index {t : TypeId} {x ix : Operand} (hi : Inv N ι σ w) (hr : Rv ι (ρ x) (r x)) (hrx : Rv ι (ρ ix) (r ix)) (ho : o.op = .index t x ix) (h : evOp P ro ρ o σ = some out) : OutOk P ro N ι w σ r o out := by
  unfold evOp at h; rw [ho] at h; simp only at h
  split at h
  · rename_i s k i hu hx hix
    have ei := rv_raw hix hrx
    have ex := rv_raw hx hr
    split at h
    · rename_i h0
      split at h
      · rename_i b hb
        obtain rfl := ret_val h
        refine OutOk.same hi (u := .int .u8 b.toNat) ?_ (.raw _)
        have hb' : s[i.toNat]? = some b := by
          obtain ⟨hlt, he⟩ := List.getElem?_eq_some_iff.1 hb
          have hlt' : i.toNat < s.size := by simpa using hlt
          rw [getElem?_pos s i.toNat hlt']
          simpa [ByteArray.getElem_eq_getElem_data] using he
        simp [execOp, ho, Instr.index, ei, ex, asIntOf, run_und hu, h0, hb']
      · cases h
    · cases h
  · rename_i n elem cs k i hu hx hix
    have ei := rv_raw hix hrx
    split at h
    · rename_i s hs
      split at h
      · rename_i hc
        split at h
        · rename_i v hp
          obtain rfl := ret_val h
          rw [hx] at hr
          generalize hq : r x = q at hr
          cases hr with
          | agg _ us hl hh =>
            obtain ⟨u, h1, h2⟩ := run_part hp ⟨hl, hh⟩ w
            exact OutOk.same hi (u := u) (by simp [execOp, ho, Instr.index, ei, hq, asIntOf, run_und hu, hc.1, hc.2, run_size hs, h1]) h2
        · cases h
      · cases h
    · cases h
  · cases h
end Go.Ev
