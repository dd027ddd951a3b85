/- What the parts say: The contracts of mem.Check and of its reference, over slices of values: each returns a plain function of its values. Conditions: the numbers are numbers of 64 bits. -/
import Derived.Test.YtbkjhdohkdeniaaGreatDoorP06
import Derived.Test.YtbkjhdohkdeniaaGreatDoorP02
import Derived.Laws.MakeOwn
set_option linter.unusedVariables false
set_option linter.unusedSimpArgs false
namespace Go.Proofs.YtbkjhdohkdeniaaGreatDoor
open Go.RowKit
set_option maxRecDepth 100000

theorem Lies.val {w : World} {B k : Nat} {A : Option Addr} {xs : List Val} (h : Lies encV 7 w B A xs) (hk : k < xs.length) : ∃ b o v, A = some ⟨b, o, none⟩ ∧ b < B ∧ xs[k]? = some v ∧ w.cell? ⟨b, o + k * 7, none⟩ = some (.bool v.is) ∧ w.cell? ⟨b, o + k * 7 + 1, none⟩ = some (.int .i64 v.n)
    ∧ w.cell? ⟨b, o + k * 7 + 2, none⟩ = some (.int .i64 v.key.perm) ∧ w.cell? ⟨b, o + k * 7 + 3, none⟩ = some (.int .i64 v.key.base) ∧ w.cell? ⟨b, o + k * 7 + 4, none⟩ = some (.int .i64 v.key.len) ∧ w.cell? ⟨b, o + k * 7 + 5, none⟩ = some (.int .i64 v.key.pos) ∧ w.cell? ⟨b, o + k * 7 + 6, none⟩ = some (.int .i64 v.key.tag) := by
  obtain ⟨b, o, p, hA, hb, hp, hc⟩ := h.at_ hk
  exact ⟨b, o, p, hA, hb, hp, hc 0 (by omega), hc 1 (by omega), hc 2 (by omega), hc 3 (by omega), hc 4 (by omega), hc 5 (by omega), hc 6 (by omega)⟩
def firstE {α : Type} (f : α → Int) : List α → Int
  | [] => 0
  | v :: l => if (f v != 0) = true then f v else firstE f l
def memE (l : List Val) : Int := if 400 < l.length then 2 else firstE valE l

end Go.Proofs.YtbkjhdohkdeniaaGreatDoor
