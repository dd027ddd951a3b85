/- The words that all contracts of this seat share: what a call that only makes new memory leaves behind, and small lemmas. Conditions: none. -/
import Derived.Test.YthmpnnfejghhfaaDoorProg
import Derived.WalkKit
import Derived.Outline
import Derived.WalkLawsBesides
import Derived.WalkSpells
import Derived.Deep.QuietTactic
import Derived.BigQuiet
import Derived.Lib.Hide
import Derived.Deep.RegionHeld3
import Derived.Deep.LoopGhost
import Derived.Deep.DeepFit
import Derived.Handy
import Derived.Deep.Quiet
namespace Go.Proofs.YthmpnnfejghhfaaDoor
open Go.RowKit

/-- The call returns v, and the memory that was there is as it was. -/
def Ret (v : Value) (w : World) : Ending → World → Prop := fun e w' => e = .returned v ∧ Below w.heap.size w w'
theorem Ret.mk {v v' : Value} {w w' : World} (h : v' = v) (hb : Below w.heap.size w w') : Ret v w (.returned v') w' := ⟨by rw [h], hb⟩
theorem Ret.int {k : IntKind} {a b : Int} {w w' : World} (h : b = a) (hb : Below w.heap.size w w') : Ret (.int k a) w (.returned (.int k b)) w' := ⟨by rw [h], hb⟩
theorem Ret.bool {a b : Bool} {w w' : World} (h : b = a) (hb : Below w.heap.size w w') : Ret (.bool a) w (.returned (.bool b)) w' := ⟨by rw [h], hb⟩
theorem Ret.out {v : Value} {w w' : World} {e : Ending} (h : Ret v w e w') : e = .returned v ∧ Below w.heap.size w w' := h

theorem eint {k : IntKind} {a b : Int} (h : a = b) : Ending.returned (.int k a) = .returned (.int k b) := by rw [h]
theorem ebool {a b : Bool} (h : a = b) : Ending.returned (.bool a) = .returned (.bool b) := by rw [h]
theorem eint2 {j k : IntKind} {a b c d : Int} (h : a = b) (h' : c = d) : Ending.returned (.tuple #[.int j a, .int k c]) = .returned (.tuple #[.int j b, .int k d]) := by rw [h, h']
theorem eint3 {j k l : IntKind} {a b c d e f : Int} (h : a = b) (h' : c = d) (h'' : e = f) : Ending.returned (.tuple #[.int j a, .int k c, .int l e]) = .returned (.tuple #[.int j b, .int k d, .int l f]) := by rw [h, h', h'']

theorem bcell {W w1 : World} (hb : Below W.heap.size W w1) : (∀ b o, b < W.heap.size → w1.cell? ⟨b, o, none⟩ = W.cell? ⟨b, o, none⟩) ∧ (∀ b o, b < W.heap.size → w1.frozen? ⟨b, o, none⟩ = W.frozen? ⟨b, o, none⟩) :=
  ⟨fun b o h => hb.cell (p := ⟨b, o, none⟩) h, fun b o h => hb.frozen (p := ⟨b, o, none⟩) h⟩
theorem Ret.use {v : Value} {w w' : World} {e : Ending} (h : Ret v w e w') : e = .returned v ∧ Below w.heap.size w w' ∧ (∀ b o, b < w.heap.size → w'.cell? ⟨b, o, none⟩ = w.cell? ⟨b, o, none⟩) ∧ (∀ b o, b < w.heap.size → w'.frozen? ⟨b, o, none⟩ = w.frozen? ⟨b, o, none⟩) ∧ w.heap.size ≤ w'.heap.size :=
  ⟨h.1, h.2, (bcell h.2).1, (bcell h.2).2, h.2.size⟩

theorem isSome_set (c : Array Value) (i j : Nat) (v : Value) : ((c.setIfInBounds i v)[j]?).isSome = (c[j]?).isSome := by
  rcases Nat.lt_or_ge j c.size with h | h
  · rw [Array.getElem?_eq_getElem (by simpa using h), Array.getElem?_eq_getElem h]; rfl
  · rw [Array.getElem?_eq_none (by simpa using h), Array.getElem?_eq_none h]
/-- a store lets every cell stand -/
@[go_sem] theorem isSome_setCell (w : World) (a b : Addr) (v : Value) : ((w.setCell a v).cell? b).isSome = (w.cell? b).isSome := by
  unfold World.cell? World.setCell
  simp only [Array.getElem?_modify]
  by_cases h : a.block = b.block
  · rw [if_pos h, ← h]
    cases hw : w.heap[a.block]? with
    | none => rfl
    | some o =>
      cases o <;> simp only [Option.map_some]
      split
      · rfl
      · split
        · rfl
        · exact isSome_set _ _ _ _
  · rw [if_neg h]
end Go.Proofs.YthmpnnfejghhfaaDoor
