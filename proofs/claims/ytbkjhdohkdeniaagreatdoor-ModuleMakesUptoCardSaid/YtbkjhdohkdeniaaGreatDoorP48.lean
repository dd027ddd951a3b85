/- What the parts say: What the reach of the data says of a slice's length. Conditions: none. -/
import Derived.Test.YtbkjhdohkdeniaaGreatDoorP03
import Derived.SizedLaws
set_option linter.unusedVariables false
set_option linter.unusedSimpArgs false
namespace Go.Proofs.YtbkjhdohkdeniaaGreatDoor
open Go.ChangeShapes Go.WideShapes Go.RowKit Go.Deep
set_option maxRecDepth 100000
section
variable {H : Type} {enc : TypeId × Value → H} {w : World} {base : Nat} {sp : Nat → Bool} {held : Bool}
theorem slice_weight {t e : TypeId} {fuel n c B : Nat} {A : Option Addr} {x : DataW H × List MemPlace} (ht : Tryz.prog.underlying t = some (.slice e)) (h : DataW.trod enc Tryz.prog w base sp held fuel t [.slice A n c] = some x) (hB : (x.1.weights Tryz.prog t).all (· ≤ B) = true) : n * Tryz.prog.bytesOf e ≤ B := by
  rcases open_slice ht h with ⟨hc, _⟩ | ⟨a, len, cap, m, n', D, Pl, hc, hb, hl, hm, hmm, rfl, hi⟩
  · simp only [List.cons.injEq, and_true] at hc
    injection hc with _ h2 _
    subst h2; simp
  · simp only [List.cons.injEq, and_true] at hc
    injection hc with _ h2 _
    subst h2
    simp only [DataW.weights, ht, List.length_map, List.length_range, List.all_cons, Bool.and_eq_true, decide_eq_true_eq] at hB
    exact Nat.le_trans (Nat.mul_le_mul_right _ (by omega)) hB.1
end
end Go.Proofs.YtbkjhdohkdeniaaGreatDoor
