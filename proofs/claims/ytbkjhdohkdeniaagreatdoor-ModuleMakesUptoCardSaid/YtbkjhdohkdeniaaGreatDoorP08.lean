/- What the parts say: A region that draws its order: operations that only read, in a class of worlds, ahead of a forced tail that may write or make memory. One walk in the text's order serves every order. Conditions: none. -/
import Derived.Test.YtbkjhdohkdeniaaGreatDoorP01
import Derived.StillTailTactics
import Derived.Deep.MidRow
set_option linter.unusedVariables false
set_option linter.unusedSimpArgs false
namespace Go.Proofs.YtbkjhdohkdeniaaGreatDoor
open Go.RowKit
set_option maxRecDepth 100000

section
variable {P : Program} {ops : Array Oper} {md : Region.Mode} {C : World → Prop}
end
theorem Kept.alloc {w W : World} {bs : List (Array Value)} (h : Kept w bs W) (o : Obj) : Kept w bs (W.alloc o) := by
  have hs := h.size
  have hl : ∀ i cs, bs[i]? = some cs → w.heap.size + i < W.heap.size := fun i cs hi => by
    have := (List.getElem?_eq_some_iff.1 hi).1
    omega
  exact ⟨h.below.alloc (by omega) _, by rw [World.size_alloc]; omega, fun i cs hi o' => (World.cell?_alloc_lt _ _ _ (hl i cs hi)).trans (h.cell i cs hi o'),
    fun i cs hi o' => (World.frozen?_of_block (w := W) (Below.heap_alloc _ _ _ (hl i cs hi))).trans (h.frozen i cs hi o')⟩
theorem Kept.on {w W W' : World} {bs : List (Array Value)} (h : Kept w bs W) (hb : Below W.heap.size W W') : Kept w bs W' := by
  have hs := h.size
  have hz := hb.size
  have hl : ∀ i cs, bs[i]? = some cs → w.heap.size + i < W.heap.size := fun i cs hi => by
    have := (List.getElem?_eq_some_iff.1 hi).1
    omega
  exact ⟨h.below.trans (hb.mono (by omega)), by omega, fun i cs hi o' => (hb.cell (p := ⟨_, o', none⟩) (hl i cs hi)).trans (h.cell i cs hi o'),
    fun i cs hi o' => (hb.frozen (p := ⟨_, o', none⟩) (hl i cs hi)).trans (h.frozen i cs hi o')⟩
end Go.Proofs.YtbkjhdohkdeniaaGreatDoor
