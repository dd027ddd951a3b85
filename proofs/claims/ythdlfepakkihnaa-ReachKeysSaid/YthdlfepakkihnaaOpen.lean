/- The readings of the arguments: what can be read as a key, a value, a piece or a row of these holds their numbers. Conditions: none. -/
import Derived.Test.YthdlfepakkihnaaModel
import Derived.ProofKit
import Derived.OpenShut
import Derived.Deep.Slices
namespace Go.Proofs.Ythdlfepakkihnaa
open Go.ChangeShapes Go.WideShapes Go.RowKit
set_option linter.unusedVariables false
set_option linter.unusedSimpArgs false
set_option maxRecDepth 100000

theorem cells_int : Try.prog.cellsOf 3 = 1 := by kernel_rfl
theorem i64_of_wf {n : Int} (h : (Lit.int .i64 n).wf = true) : i64 n := by
  simpa [Lit.wf, IntKind.min, IntKind.max, IntKind.signed, IntKind.bits, i64] using h

section
variable {H : Type} {enc : TypeId × Value → H} {w : World} {base : Nat} {sp : Nat → Bool} {held : Bool}
theorem some_at {α : Type} {l : List α} {n i : Nat} (h : l.length = n) (hi : i < n) : ∃ y, l[i]? = some y :=
  ⟨l[i]'(by omega), List.getElem?_eq_getElem (by omega)⟩
theorem field_at {fs : Array Field} {n : Nat} {cs : List Value} {xs : List (DataW H × List MemPlace)} (hf : ∀ (i : Nat) (f : Field), fs[i]? = some f → DataW.trod enc Try.prog w base sp held n f.type ((cs.drop f.offset).take (Try.prog.cellsOf f.type)) = xs[i]?)
    {i : Nat} {f : Field} {t : TypeId} {o c : Nat} {y : DataW H × List MemPlace} (hi : fs[i]? = some f) (ht : f.type = t) (ho : f.offset = o) (hc : Try.prog.cellsOf t = c) (hy : xs[i]? = some y) :
    DataW.trod enc Try.prog w base sp held n t ((cs.drop o).take c) = some y := by
  have h := hf i f hi
  rw [ht, ho, hc, hy] at h
  exact h
theorem cells_key : Try.prog.cellsOf 23 = 5 := by kernel_rfl
theorem trod_key {fuel : Nat} {cs : List Value} {x : DataW H × List MemPlace} (h : DataW.trod enc Try.prog w base sp held fuel 23 cs = some x) : ∃ k : Key, k.Wf ∧ cs = [.int .i64 k.perm, .int .i64 k.base, .int .i64 k.len, .int .i64 k.pos, .int .i64 k.tag] := by
  obtain ⟨xs, n, rfl, rfl, hl, hx, hf⟩ := DataW.trod_struct Try.underlying23 h
  have hl' : cs.length = 5 := hl.trans cells_key
  have hx' : xs.length = 5 := hx
  match cs, hl' with
  | [c0, c1, c2, c3, c4], _ =>
    obtain ⟨y0, e0⟩ := some_at hx' (i := 0) (by omega)
    obtain ⟨y1, e1⟩ := some_at hx' (i := 1) (by omega)
    obtain ⟨y2, e2⟩ := some_at hx' (i := 2) (by omega)
    obtain ⟨y3, e3⟩ := some_at hx' (i := 3) (by omega)
    obtain ⟨y4, e4⟩ := some_at hx' (i := 4) (by omega)
    have g0 : DataW.trod enc Try.prog w base sp held n 3 [c0] = some y0 := field_at hf (i := 0) rfl rfl rfl cells_int e0
    have g1 : DataW.trod enc Try.prog w base sp held n 3 [c1] = some y1 := field_at hf (i := 1) rfl rfl rfl cells_int e1
    have g2 : DataW.trod enc Try.prog w base sp held n 3 [c2] = some y2 := field_at hf (i := 2) rfl rfl rfl cells_int e2
    have g3 : DataW.trod enc Try.prog w base sp held n 3 [c3] = some y3 := field_at hf (i := 3) rfl rfl rfl cells_int e3
    have g4 : DataW.trod enc Try.prog w base sp held n 3 [c4] = some y4 := field_at hf (i := 4) rfl rfl rfl cells_int e4
    obtain ⟨n0, z0, _, w0⟩ := DataW.trod_int Try.underlying3 g0
    obtain ⟨n1, z1, _, w1⟩ := DataW.trod_int Try.underlying3 g1
    obtain ⟨n2, z2, _, w2⟩ := DataW.trod_int Try.underlying3 g2
    obtain ⟨n3, z3, _, w3⟩ := DataW.trod_int Try.underlying3 g3
    obtain ⟨n4, z4, _, w4⟩ := DataW.trod_int Try.underlying3 g4
    refine ⟨⟨n0, n1, n2, n3, n4⟩, ⟨i64_of_wf w0, i64_of_wf w1, i64_of_wf w2, i64_of_wf w3, i64_of_wf w4⟩, ?_⟩
    simp only [List.cons.injEq, and_true] at z0 z1 z2 z3 z4
    rw [z0, z1, z2, z3, z4]
theorem open_key {r : Reach} {b0 : Nat} {v : Value} {d : DataW H} {ps : List MemPlace} (hval : Value.okWide Try.prog w r b0 23 v) (h : DataW.Trod enc Try.prog w base sp held 23 v d ps) :
    ∃ k : Key, k.Wf ∧ v = .agg #[.int .i64 k.perm, .int .i64 k.base, .int .i64 k.len, .int .i64 k.pos, .int .i64 k.tag] := by
  obtain ⟨cs, rfl, hsz⟩ := okWide_struct Try.underlying23 hval
  obtain ⟨fuel, hf⟩ := h
  obtain ⟨k, hk, he⟩ := trod_key hf
  refine ⟨k, hk, ?_⟩
  obtain ⟨l⟩ := cs
  exact congrArg (fun l : List Value => Value.agg l.toArray) he
theorem cells_val : Try.prog.cellsOf 25 = 7 := by kernel_rfl
theorem cells_bool : Try.prog.cellsOf 4 = 1 := by kernel_rfl
theorem trod_val {fuel : Nat} {cs : List Value} {x : DataW H × List MemPlace} (h : DataW.trod enc Try.prog w base sp held fuel 25 cs = some x) : ∃ v : Val, v.Wf ∧ cs = [.bool v.is, .int .i64 v.n, .int .i64 v.key.perm, .int .i64 v.key.base, .int .i64 v.key.len, .int .i64 v.key.pos, .int .i64 v.key.tag] := by
  obtain ⟨xs, n, rfl, rfl, hl, hx, hf⟩ := DataW.trod_struct Try.underlying25 h
  have hl' : cs.length = 7 := hl.trans cells_val
  have hx' : xs.length = 3 := hx
  match cs, hl' with
  | [c0, c1, c2, c3, c4, c5, c6], _ =>
    obtain ⟨y0, e0⟩ := some_at hx' (i := 0) (by omega)
    obtain ⟨y1, e1⟩ := some_at hx' (i := 1) (by omega)
    obtain ⟨y2, e2⟩ := some_at hx' (i := 2) (by omega)
    have g0 : DataW.trod enc Try.prog w base sp held n 4 [c0] = some y0 := field_at hf (i := 0) rfl rfl rfl cells_bool e0
    have g1 : DataW.trod enc Try.prog w base sp held n 3 [c1] = some y1 := field_at hf (i := 1) rfl rfl rfl cells_int e1
    have g2 : DataW.trod enc Try.prog w base sp held n 23 [c2, c3, c4, c5, c6] = some y2 := field_at hf (i := 2) rfl rfl rfl cells_key e2
    obtain ⟨b, z0, _⟩ := DataW.trod_bool Try.underlying4 g0
    obtain ⟨n1, z1, _, w1⟩ := DataW.trod_int Try.underlying3 g1
    obtain ⟨k, hk, z2⟩ := trod_key g2
    refine ⟨⟨b, n1, k⟩, ⟨i64_of_wf w1, hk⟩, ?_⟩
    simp only [List.cons.injEq, and_true] at z0 z1 z2
    obtain ⟨q0, q1, q2, q3, q4⟩ := z2
    rw [z0, z1, q0, q1, q2, q3, q4]
theorem open_val {r : Reach} {b0 : Nat} {v : Value} {d : DataW H} {ps : List MemPlace} (hval : Value.okWide Try.prog w r b0 25 v) (h : DataW.Trod enc Try.prog w base sp held 25 v d ps) :
    ∃ k : Val, k.Wf ∧ v = .agg #[.bool k.is, .int .i64 k.n, .int .i64 k.key.perm, .int .i64 k.key.base, .int .i64 k.key.len, .int .i64 k.key.pos, .int .i64 k.key.tag] := by
  obtain ⟨cs, rfl, hsz⟩ := okWide_struct Try.underlying25 hval
  obtain ⟨fuel, hf⟩ := h
  obtain ⟨k, hk, he⟩ := trod_val hf
  refine ⟨k, hk, ?_⟩
  obtain ⟨l⟩ := cs
  exact congrArg (fun l : List Value => Value.agg l.toArray) he
end
end Go.Proofs.Ythdlfepakkihnaa
