/- A slice of modules, read as plain data with its addresses. Conditions: none. -/
import Derived.Test.YthdlfepakkihnaaLinkM
namespace Go.Proofs.Ythdlfepakkihnaa
open Go.ChangeShapes Go.WideShapes Go.RowKit Go.Deep
set_option linter.unusedVariables false
set_option linter.unusedSimpArgs false
set_option maxRecDepth 100000
/-- a module with the addresses of its slices -/
structure ModA where
  A : Option Addr
  a : Nat
  D : Option Addr
  d : Nat
  E : Option Addr
  e : Nat
  I : Option Addr
  i : Nat
  m : Mod
def encA (x : ModA) : List Value := [.slice x.A x.m.code.length x.a, .slice x.D x.m.data.length x.d, .slice x.E x.m.exports.length x.e, .slice x.I x.m.imports.length x.i]
structure ModA.Ok (w : World) (B : Nat) (x : ModA) : Prop where
  caps : x.m.code.length ≤ x.a ∧ x.a ≤ maxLen ∧ x.m.data.length ≤ x.d ∧ x.d ≤ maxLen ∧ x.m.exports.length ≤ x.e ∧ x.e ≤ maxLen ∧ x.m.imports.length ≤ x.i ∧ x.i ≤ maxLen
  code : Lies encI 1 w B x.A x.m.code
  data : Lies encI 1 w B x.D x.m.data
  exps : Lies encL 2 w B x.E x.m.exports
  imps : Lies encM 2 w B x.I x.m.imports
theorem ModA.Ok.v {w : World} {B : Nat} {x : ModA} (h : x.Ok w B) : ModV w B (.agg #[.slice x.A x.m.code.length x.a, .slice x.D x.m.data.length x.d, .slice x.E x.m.exports.length x.e, .slice x.I x.m.imports.length x.i]) x.m := by
  obtain ⟨h1, h2, h3, h4, h5, h6, h7, h8⟩ := h.caps
  exact ⟨x.A, x.D, x.E, x.I, x.a, x.d, x.e, x.i, rfl, h1, h2, h3, h4, h5, h6, h7, h8, h.code, h.data, h.exps, h.imps⟩
theorem ModA.Ok.below {w w' : World} {B : Nat} {x : ModA} (h : x.Ok w B) (hb : Below B w w') : x.Ok w' B := ⟨h.caps, h.code.below hb, h.data.below hb, h.exps.below hb, h.imps.below hb⟩
theorem ModA.Ok.more {w : World} {B B' : Nat} {x : ModA} (h : x.Ok w B) (hB : B ≤ B') : x.Ok w B' := ⟨h.caps, h.code.more hB, h.data.more hB, h.exps.more hB, h.imps.more hB⟩
/-- a slice of modules: where it lies, what it holds -/
structure ModsV (w : World) (B : Nat) (L : Option Addr) (xs : List ModA) : Prop where
  lies : Lies encA 4 w B L xs
  ok : ∀ (k : Nat) x, xs[k]? = some x → x.Ok w B
  wf : ∀ (k : Nat) x, xs[k]? = some x → x.m.Wf
theorem ModsV.below {w w' : World} {B : Nat} {L : Option Addr} {xs : List ModA} (h : ModsV w B L xs) (hb : Below B w w') : ModsV w' B L xs := ⟨h.lies.below hb, fun k x hx => (h.ok k x hx).below hb, h.wf⟩
theorem ModsV.more {w : World} {B B' : Nat} {L : Option Addr} {xs : List ModA} (h : ModsV w B L xs) (hB : B ≤ B') : ModsV w B' L xs := ⟨h.lies.more hB, fun k x hx => (h.ok k x hx).more hB, h.wf⟩
theorem ModsV.grow {w w' : World} {L : Option Addr} {xs : List ModA} (h : ModsV w w.heap.size L xs) (hb : Below w.heap.size w w') : ModsV w' w'.heap.size L xs := (h.below hb).more hb.size
/-- the k-th one -/
theorem ModsV.at_ {w : World} {B k : Nat} {L : Option Addr} {xs : List ModA} (h : ModsV w B L xs) (hk : k < xs.length) : ∃ b o x, L = some ⟨b, o, none⟩ ∧ b < B ∧ xs[k]? = some x ∧ x.Ok w B ∧ x.m.Wf ∧
    w.cell? ⟨b, o + k * 4, none⟩ = some (.slice x.A x.m.code.length x.a) ∧ w.cell? ⟨b, o + k * 4 + 1, none⟩ = some (.slice x.D x.m.data.length x.d) ∧ w.cell? ⟨b, o + k * 4 + 2, none⟩ = some (.slice x.E x.m.exports.length x.e) ∧ w.cell? ⟨b, o + k * 4 + 3, none⟩ = some (.slice x.I x.m.imports.length x.i) := by
  obtain ⟨b, o, x, hA, hb, hx, hc⟩ := h.lies.at_ hk
  exact ⟨b, o, x, hA, hb, hx, h.ok k x hx, h.wf k x hx, hc 0 (by omega), hc 1 (by omega), hc 2 (by omega), hc 3 (by omega)⟩
section
variable {H : Type} {enc : TypeId × Value → H} {w : World} {base : Nat} {sp : Nat → Bool} {held : Bool}
theorem cells_module : Try.prog.cellsOf 51 = 4 := by kernel_rfl
theorem trod_module {fuel : Nat} {cs : List Value} {x : DataW H × List MemPlace} (h : DataW.trod enc Try.prog w base sp held fuel 51 cs = some x) : ∃ k : ModA, (k.Ok w w.heap.size ∧ k.m.Wf) ∧ cs = encA k := by
  obtain ⟨ys, n, rfl, rfl, hl, hx, hf⟩ := DataW.trod_struct Try.underlying51 h
  have hl' : cs.length = 4 := hl.trans cells_module
  have hx' : ys.length = 4 := hx
  match cs, hl' with
  | [c0, c1, c2, c3], _ =>
    obtain ⟨y0, e0⟩ := some_at hx' (i := 0) (by omega)
    obtain ⟨y1, e1⟩ := some_at hx' (i := 1) (by omega)
    obtain ⟨y2, e2⟩ := some_at hx' (i := 2) (by omega)
    obtain ⟨y3, e3⟩ := some_at hx' (i := 3) (by omega)
    have g0 : DataW.trod enc Try.prog w base sp held n 29 [c0] = some y0 := field_at hf (i := 0) rfl rfl rfl cells_ints e0
    have g1 : DataW.trod enc Try.prog w base sp held n 29 [c1] = some y1 := field_at hf (i := 1) rfl rfl rfl cells_ints e1
    have g2 : DataW.trod enc Try.prog w base sp held n 48 [c2] = some y2 := field_at hf (i := 2) rfl rfl rfl cells_labels e2
    have g3 : DataW.trod enc Try.prog w base sp held n 49 [c3] = some y3 := field_at hf (i := 3) rfl rfl rfl cells_imports e3
    obtain ⟨A, a, code, z0, a1, a2, a3, a4⟩ := rows_of_cs (α := Int) (enc := encI) (Wf := i64) (size := 1) Try.underlying29 cells_int (by decide) (fun h => by obtain ⟨n, z, _, wf⟩ := DataW.trod_int Try.underlying3 h; exact ⟨n, i64_of_wf wf, z⟩) (fun _ => rfl) g0
    obtain ⟨D, d, data, z1, b1, b2, b3, b4⟩ := rows_of_cs (α := Int) (enc := encI) (Wf := i64) (size := 1) Try.underlying29 cells_int (by decide) (fun h => by obtain ⟨n, z, _, wf⟩ := DataW.trod_int Try.underlying3 h; exact ⟨n, i64_of_wf wf, z⟩) (fun _ => rfl) g1
    obtain ⟨E, e, exs, z2, e1, e2, e3, e4⟩ := rows_of_cs (enc := encL) (Wf := Label.Wf) (size := 2) Try.underlying48 cells_Label (by decide) trod_Label (fun _ => rfl) g2
    obtain ⟨I, i, ims, z3, i1, i2, i3, i4⟩ := rows_of_cs (enc := encM) (Wf := Import.Wf) (size := 2) Try.underlying49 cells_Import (by decide) trod_Import (fun _ => rfl) g3
    simp only [List.cons.injEq, and_true] at z0 z1 z2 z3
    subst z0 z1 z2 z3
    exact ⟨⟨A, a, D, d, E, e, I, i, ⟨code, data, exs, ims⟩⟩, ⟨⟨⟨a1, a2, b1, b2, e1, e2, i1, i2⟩, a4, b4, e4, i4⟩, ⟨a3, b3, e3, i3⟩⟩, rfl⟩
/-- what can be read as a slice of modules -/
theorem open_modules {r : Reach} {b0 : Nat} {v : Value} {d : DataW H} {ps : List MemPlace} (hval : Value.okWide Try.prog w r b0 39 v) (h : DataW.Trod enc Try.prog w base sp held 39 v d ps) :
    ∃ L c, ∃ xs : List ModA, v = .slice L xs.length c ∧ xs.length ≤ c ∧ c ≤ maxLen ∧ ModsV w w.heap.size L xs := by
  obtain ⟨L, c, xs, hv, h1, h2, h3, h4⟩ := open_rows (enc := encA) (Wf := fun k : ModA => k.Ok w w.heap.size ∧ k.m.Wf) (size := 4) Try.underlying39 cells_module (by decide) trod_module (fun _ => rfl) hval h
  exact ⟨L, c, xs, hv, h1, h2, h4, fun k x hx => (h3 k x hx).1, fun k x hx => (h3 k x hx).2⟩
end
end Go.Proofs.Ythdlfepakkihnaa
