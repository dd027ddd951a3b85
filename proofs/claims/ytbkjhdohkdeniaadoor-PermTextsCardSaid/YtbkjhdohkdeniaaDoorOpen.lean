/- The readings of the arguments: what can be read as a key, a value, a piece or a row of these holds their numbers. Conditions: none. -/
import Derived.Test.YtbkjhdohkdeniaaDoorModel
import Derived.ProofKit
import Derived.OpenShut
import Derived.Deep.Slices
namespace Go.Proofs.YtbkjhdohkdeniaaDoor
open Go.ChangeShapes Go.WideShapes Go.RowKit
set_option linter.unusedVariables false
set_option linter.unusedSimpArgs false
set_option maxRecDepth 100000

theorem cells_int : Tryd.prog.cellsOf 3 = 1 := by kernel_rfl
theorem i64_of_wf {n : Int} (h : (Lit.int .i64 n).wf = true) : i64 n := by
  simpa [Lit.wf, IntKind.min, IntKind.max, IntKind.signed, IntKind.bits, i64] using h

section
variable {H : Type} {enc : TypeId × Value → H} {w : World} {base : Nat} {sp : Nat → Bool} {held : Bool}
theorem some_at {α : Type} {l : List α} {n i : Nat} (h : l.length = n) (hi : i < n) : ∃ y, l[i]? = some y :=
  ⟨l[i]'(by omega), List.getElem?_eq_getElem (by omega)⟩
theorem field_at {fs : Array Field} {n : Nat} {cs : List Value} {xs : List (DataW H × List MemPlace)} (hf : ∀ (i : Nat) (f : Field), fs[i]? = some f → DataW.trod enc Tryd.prog w base sp held n f.type ((cs.drop f.offset).take (Tryd.prog.cellsOf f.type)) = xs[i]?)
    {i : Nat} {f : Field} {t : TypeId} {o c : Nat} {y : DataW H × List MemPlace} (hi : fs[i]? = some f) (ht : f.type = t) (ho : f.offset = o) (hc : Tryd.prog.cellsOf t = c) (hy : xs[i]? = some y) :
    DataW.trod enc Tryd.prog w base sp held n t ((cs.drop o).take c) = some y := by
  have h := hf i f hi
  rw [ht, ho, hc, hy] at h
  exact h
end
end Go.Proofs.YtbkjhdohkdeniaaDoor
