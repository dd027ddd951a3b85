/- The words that all contracts of this seat share: what a call that only makes new memory leaves behind, and small lemmas. Conditions: none. -/
import Derived.Test.YthfdpfapgommmaaProg
import Derived.WalkKit
import Derived.Outline
import Derived.WalkLawsBesides
import Derived.WalkSpells
import Derived.Deep.QuietTactic
import Derived.BigQuiet
import Derived.Lib.Hide
import Derived.Deep.RegionHeld3
import Derived.Deep.LoopGhost
import Derived.Deep.DeepFit
namespace Go.Proofs.Ythfdpfapgommmaa
open Go.RowKit

/-- The call returns v, and the memory that was there is as it was. -/
def Ret (v : Value) (w : World) : Ending → World → Prop := fun e w' => e = .returned v ∧ Below w.heap.size w w'
theorem Ret.mk {v v' : Value} {w w' : World} (h : v' = v) (hb : Below w.heap.size w w') : Ret v w (.returned v') w' := ⟨by rw [h], hb⟩
theorem Ret.int {k : IntKind} {a b : Int} {w w' : World} (h : b = a) (hb : Below w.heap.size w w') : Ret (.int k a) w (.returned (.int k b)) w' := ⟨by rw [h], hb⟩
theorem Ret.bool {a b : Bool} {w w' : World} (h : b = a) (hb : Below w.heap.size w w') : Ret (.bool a) w (.returned (.bool b)) w' := ⟨by rw [h], hb⟩
theorem Ret.out {v : Value} {w w' : World} {e : Ending} (h : Ret v w e w') : e = .returned v ∧ Below w.heap.size w w' := h

theorem eint {k : IntKind} {a b : Int} (h : a = b) : Ending.returned (.int k a) = .returned (.int k b) := by rw [h]
theorem ebool {a b : Bool} (h : a = b) : Ending.returned (.bool a) = .returned (.bool b) := by rw [h]
theorem eint2 {j k : IntKind} {a b c d : Int} (h : a = b) (h' : c = d) : Ending.returned (.tuple #[.int j a, .int k c]) = .returned (.tuple #[.int j b, .int k d]) := by rw [h, h']
theorem eint3 {j k l : IntKind} {a b c d e f : Int} (h : a = b) (h' : c = d) (h'' : e = f) : Ending.returned (.tuple #[.int j a, .int k c, .int l e]) = .returned (.tuple #[.int j b, .int k d, .int l f]) := by rw [h, h', h'']

theorem bcell {W w1 : World} (hb : Below W.heap.size W w1) : (∀ b o, b < W.heap.size → w1.cell? ⟨b, o, none⟩ = W.cell? ⟨b, o, none⟩) ∧ (∀ b o, b < W.heap.size → w1.frozen? ⟨b, o, none⟩ = W.frozen? ⟨b, o, none⟩) :=
  ⟨fun b o h => hb.cell (p := ⟨b, o, none⟩) h, fun b o h => hb.frozen (p := ⟨b, o, none⟩) h⟩
end Go.Proofs.Ythfdpfapgommmaa
