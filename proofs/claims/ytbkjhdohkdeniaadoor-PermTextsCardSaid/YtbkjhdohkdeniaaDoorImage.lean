/- Images: entries and places, read as plain data. Conditions: none. -/
import Derived.Test.YtbkjhdohkdeniaaDoorOwn
namespace Go.Proofs.YtbkjhdohkdeniaaDoor
open Go.ChangeShapes Go.WideShapes Go.RowKit Go.Deep
set_option linter.unusedVariables false
set_option linter.unusedSimpArgs false
set_option maxRecDepth 100000
theorem cells_string : Tryd.prog.cellsOf 9 = 1 := by kernel_rfl
structure Entry where
  name : ByteArray
  code : Key
  data : Key
theorem Entry.ext_iff' {a b : Entry} : (a.name = b.name ∧ a.code = b.code ∧ a.data = b.data) ↔ a = b := by
  constructor
  · rintro ⟨h0, h1, h2⟩
    cases a; cases b; simp_all
  · rintro rfl; exact ⟨rfl, rfl, rfl⟩
instance : DecidableEq Entry := fun a b => decidable_of_iff (a.name = b.name ∧ a.code = b.code ∧ a.data = b.data) Entry.ext_iff'
structure Entry.Wf (k : Entry) : Prop where
  name : k.name.size ≤ maxLen
  code : k.code.Wf
  data : k.data.Wf
def encE (x : Entry) : List Value := [.string x.name, .int .i64 x.code.perm, .int .i64 x.code.base, .int .i64 x.code.len, .int .i64 x.code.pos, .int .i64 x.code.tag, .int .i64 x.data.perm, .int .i64 x.data.base, .int .i64 x.data.len, .int .i64 x.data.pos, .int .i64 x.data.tag]
theorem Lies.cellsE {w : World} {B k : Nat} {A : Option Addr} {xs : List Entry} (h : Lies encE 11 w B A xs) (hk : k < xs.length) : ∃ b o p, A = some ⟨b, o, none⟩ ∧ b < B ∧ xs[k]? = some p ∧ w.cell? ⟨b, o + k * 11, none⟩ = some (.string p.name) ∧ w.cell? ⟨b, o + k * 11 + 1, none⟩ = some (.int .i64 p.code.perm) ∧ w.cell? ⟨b, o + k * 11 + 2, none⟩ = some (.int .i64 p.code.base) ∧ w.cell? ⟨b, o + k * 11 + 3, none⟩ = some (.int .i64 p.code.len) ∧ w.cell? ⟨b, o + k * 11 + 4, none⟩ = some (.int .i64 p.code.pos) ∧ w.cell? ⟨b, o + k * 11 + 5, none⟩ = some (.int .i64 p.code.tag) ∧ w.cell? ⟨b, o + k * 11 + 6, none⟩ = some (.int .i64 p.data.perm) ∧ w.cell? ⟨b, o + k * 11 + 7, none⟩ = some (.int .i64 p.data.base) ∧ w.cell? ⟨b, o + k * 11 + 8, none⟩ = some (.int .i64 p.data.len) ∧ w.cell? ⟨b, o + k * 11 + 9, none⟩ = some (.int .i64 p.data.pos) ∧ w.cell? ⟨b, o + k * 11 + 10, none⟩ = some (.int .i64 p.data.tag) := by
  obtain ⟨b, o, p, hA, hb, hp, hc⟩ := h.at_ hk
  exact ⟨b, o, p, hA, hb, hp, hc 0 (by omega), hc 1 (by omega), hc 2 (by omega), hc 3 (by omega), hc 4 (by omega), hc 5 (by omega), hc 6 (by omega), hc 7 (by omega), hc 8 (by omega), hc 9 (by omega), hc 10 (by omega)⟩
end Go.Proofs.YtbkjhdohkdeniaaDoor
