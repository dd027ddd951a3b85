/- What can be read as a machine is one. Conditions: none. -/
import Derived.Test.YthdlfepakkihnaaMach
namespace Go.Proofs.Ythdlfepakkihnaa
open Go.ChangeShapes Go.WideShapes Go.RowKit Go.Deep
set_option linter.unusedVariables false
set_option linter.unusedSimpArgs false
set_option maxRecDepth 100000

theorem chunks {α : Type} {enc : α → List Value} {Wf : α → Prop} {size : Nat} {n : Nat} {cs : List Value} (hl : cs.length = n * size)
    (h : ∀ i, i < n → ∃ k : α, Wf k ∧ (cs.drop (i * size)).take size = enc k) : ∃ xs : List α, xs.length = n ∧ (∀ (i : Nat) v, xs[i]? = some v → Wf v) ∧ cs = xs.flatMap enc := by
  induction n generalizing cs with
  | zero => exact ⟨[], rfl, fun i v hv => by simp at hv, by simpa using List.length_eq_zero_iff.1 (by simpa using hl)⟩
  | succ n ih =>
    obtain ⟨k, hk, he⟩ := h 0 (by omega)
    rw [Nat.zero_mul, List.drop_zero] at he
    obtain ⟨xs, h1, h2, h3⟩ := ih (cs := cs.drop size) (by rw [List.length_drop, hl, Nat.succ_mul]; omega) (fun i hi => by
      obtain ⟨k, hk, he⟩ := h (i + 1) (by omega)
      exact ⟨k, hk, by rw [List.drop_drop, ← he, Nat.succ_mul, Nat.add_comm]⟩)
    refine ⟨k :: xs, by rw [List.length_cons, h1], fun i v hv => ?_, ?_⟩
    · match i, hv with
      | 0, hv => simp at hv; subst hv; exact hk
      | i + 1, hv => exact h2 i v (by simpa using hv)
    · rw [List.flatMap_cons, ← he, ← h3, List.take_append_drop]
section
variable {H : Type} {enc : TypeId × Value → H} {w : World} {base : Nat} {sp : Nat → Bool} {held : Bool}
theorem cells_regs : Try.prog.cellsOf 26 = 56 := by kernel_rfl
theorem cells_frames : Try.prog.cellsOf 28 = 1 := by kernel_rfl
theorem cells_outs : Try.prog.cellsOf 29 = 1 := by kernel_rfl
/-- what can be read as a machine -/
theorem open_mach {r : Reach} {b0 : Nat} {v : Value} {d : DataW H} {ps : List MemPlace} (hval : Value.okWide Try.prog w r b0 31 v) (h : DataW.Trod enc Try.prog w base sp held 31 v d ps) :
    ∃ (mc : Array Value) (m : Mach), v = .agg mc ∧ m.Wf ∧ MachV w w.heap.size mc m := by
  obtain ⟨cs, rfl, hsz⟩ := okWide_struct Try.underlying31 hval
  obtain ⟨fuel, hf0⟩ := h
  obtain ⟨l⟩ := cs
  obtain ⟨ys, n, rfl, _, hl, hx, hf⟩ := DataW.trod_struct Try.underlying31 hf0
  have hl' : l.length = 64 := hl.trans (by kernel_rfl)
  have hx' : ys.length = 5 := hx
  obtain ⟨y0, e0⟩ := some_at hx' (i := 0) (by omega)
  obtain ⟨y1, e1⟩ := some_at hx' (i := 1) (by omega)
  obtain ⟨y2, e2⟩ := some_at hx' (i := 2) (by omega)
  obtain ⟨y3, e3⟩ := some_at hx' (i := 3) (by omega)
  obtain ⟨y4, e4⟩ := some_at hx' (i := 4) (by omega)
  have g0 : DataW.trod enc Try.prog w base sp held n 26 ((l.drop 0).take 56) = some y0 := field_at hf (i := 0) rfl rfl rfl cells_regs e0
  have g1 : DataW.trod enc Try.prog w base sp held n 23 ((l.drop 56).take 5) = some y1 := field_at hf (i := 1) rfl rfl rfl cells_key e1
  have g2 : DataW.trod enc Try.prog w base sp held n 27 ((l.drop 61).take 1) = some y2 := field_at hf (i := 2) rfl rfl rfl cells_vals e2
  have g3 : DataW.trod enc Try.prog w base sp held n 28 ((l.drop 62).take 1) = some y3 := field_at hf (i := 3) rfl rfl rfl cells_frames e3
  have g4 : DataW.trod enc Try.prog w base sp held n 29 ((l.drop 63).take 1) = some y4 := field_at hf (i := 4) rfl rfl rfl cells_outs e4
  obtain ⟨rs, hr1, hr2, hr3⟩ : ∃ rs : List Val, rs.length = 8 ∧ (∀ (i : Nat) v, rs[i]? = some v → Val.Wf v) ∧ (l.drop 0).take 56 = rs.flatMap encV := by
    obtain ⟨xs, m, _, _, hlen, hxl, hi⟩ := DataW.trod_array Try.underlying26 g0
    refine chunks (size := 7) (by rw [hlen, cells_regs]) fun i hlt => ?_
    have h1 := hi i hlt
    rw [cells_val, List.getElem?_eq_getElem (by omega)] at h1
    obtain ⟨v, hv, he⟩ := trod_val h1
    exact ⟨v, hv, he⟩
  obtain ⟨k, hk, hkc⟩ := trod_key g1
  obtain ⟨A, c, xs, h0, h1, h2, h3, h4⟩ := rows_of_cs (enc := encV) (Wf := Val.Wf) (size := 7) Try.underlying27 cells_val (by decide) trod_val (fun _ => rfl) g2
  obtain ⟨S, s, ss, s0, s1, s2, s3, s4⟩ := rows_of_cs (enc := encF) (Wf := Frame.Wf) (size := 12) Try.underlying28 cells_Frame (by decide) trod_Frame (fun _ => rfl) g3
  obtain ⟨O, o, os, o0, o1, o2, o3, o4⟩ := rows_of_cs (enc := encI) (Wf := i64) (size := 1) Try.underlying29 cells_int (by decide) (fun h => by obtain ⟨n, z, _, wf⟩ := DataW.trod_int Try.underlying3 h; exact ⟨n, i64_of_wf wf, z⟩) (fun _ => rfl) g4
  refine ⟨_, ⟨rs, k, xs, ss, os⟩, rfl, ⟨hr2, hk, h3, s3, o3⟩, ⟨⟨A, S, O, c, s, o, ?_, h1, h2, s1, s2, o1, o2, h4, s4, o4⟩, hr1⟩⟩
  refine congrArg List.toArray ?_
  have t1 : l = (l.drop 0).take 56 ++ l.drop 56 := by rw [List.drop_zero, List.take_append_drop]
  have t2 : l.drop 56 = (l.drop 56).take 5 ++ l.drop 61 := (List.take_append_drop 5 (l.drop 56)).symm.trans (by rw [List.drop_drop])
  have t3 : l.drop 61 = (l.drop 61).take 1 ++ l.drop 62 := (List.take_append_drop 1 (l.drop 61)).symm.trans (by rw [List.drop_drop])
  have t4 : l.drop 62 = (l.drop 62).take 1 ++ l.drop 63 := (List.take_append_drop 1 (l.drop 62)).symm.trans (by rw [List.drop_drop])
  have t5 : l.drop 63 = (l.drop 63).take 1 ++ [] := by rw [List.append_nil, List.take_of_length_le (by rw [List.length_drop]; omega)]
  rw [hr3] at t1
  rw [hkc] at t2
  rw [h0] at t3
  rw [s0] at t4
  rw [o0] at t5
  rw [t5] at t4
  rw [t4] at t3
  rw [t3] at t2
  rw [t2] at t1
  rw [t1]
  rfl
end
end Go.Proofs.Ythdlfepakkihnaa
