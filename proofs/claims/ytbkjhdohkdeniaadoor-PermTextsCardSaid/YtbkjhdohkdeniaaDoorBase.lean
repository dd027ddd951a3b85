/- The words that all contracts of this seat share: what a call that only makes new memory leaves behind, and small lemmas. Conditions: none. -/
import Derived.Test.YtbkjhdohkdeniaaDoorProg
import Derived.WalkKit
import Derived.Outline
import Derived.WalkLawsBesides
import Derived.WalkSpells
import Derived.Deep.QuietTactic
import Derived.BigQuiet
import Derived.Lib.Hide
import Derived.Deep.RegionHeld3
import Derived.Deep.LoopGhost
import Derived.Deep.DeepFit
import Derived.Handy
import Derived.Deep.Quiet
namespace Go.Proofs.YtbkjhdohkdeniaaDoor
open Go.RowKit

/-- The call returns v, and the memory that was there is as it was. -/
def Ret (v : Value) (w : World) : Ending → World → Prop := fun e w' => e = .returned v ∧ Below w.heap.size w w'
theorem Ret.mk {v v' : Value} {w w' : World} (h : v' = v) (hb : Below w.heap.size w w') : Ret v w (.returned v') w' := ⟨by rw [h], hb⟩
theorem Ret.int {k : IntKind} {a b : Int} {w w' : World} (h : b = a) (hb : Below w.heap.size w w') : Ret (.int k a) w (.returned (.int k b)) w' := ⟨by rw [h], hb⟩
theorem Ret.bool {a b : Bool} {w w' : World} (h : b = a) (hb : Below w.heap.size w w') : Ret (.bool a) w (.returned (.bool b)) w' := ⟨by rw [h], hb⟩
theorem Ret.out {v : Value} {w w' : World} {e : Ending} (h : Ret v w e w') : e = .returned v ∧ Below w.heap.size w w' := h

theorem eint {k : IntKind} {a b : Int} (h : a = b) : Ending.returned (.int k a) = .returned (.int k b) := by rw [h]
theorem ebool {a b : Bool} (h : a = b) : Ending.returned (.bool a) = .returned (.bool b) := by rw [h]
theorem eint2 {j k : IntKind} {a b c d : Int} (h : a = b) (h' : c = d) : Ending.returned (.tuple #[.int j a, .int k c]) = .returned (.tuple #[.int j b, .int k d]) := by rw [h, h']
theorem eint3 {j k l : IntKind} {a b c d e f : Int} (h : a = b) (h' : c = d) (h'' : e = f) : Ending.returned (.tuple #[.int j a, .int k c, .int l e]) = .returned (.tuple #[.int j b, .int k d, .int l f]) := by rw [h, h', h'']

theorem bcell {W w1 : World} (hb : Below W.heap.size W w1) : (∀ b o, b < W.heap.size → w1.cell? ⟨b, o, none⟩ = W.cell? ⟨b, o, none⟩) ∧ (∀ b o, b < W.heap.size → w1.frozen? ⟨b, o, none⟩ = W.frozen? ⟨b, o, none⟩) :=
  ⟨fun b o h => hb.cell (p := ⟨b, o, none⟩) h, fun b o h => hb.frozen (p := ⟨b, o, none⟩) h⟩
theorem Ret.use {v : Value} {w w' : World} {e : Ending} (h : Ret v w e w') : e = .returned v ∧ Below w.heap.size w w' ∧ (∀ b o, b < w.heap.size → w'.cell? ⟨b, o, none⟩ = w.cell? ⟨b, o, none⟩) ∧ (∀ b o, b < w.heap.size → w'.frozen? ⟨b, o, none⟩ = w.frozen? ⟨b, o, none⟩) ∧ w.heap.size ≤ w'.heap.size :=
  ⟨h.1, h.2, (bcell h.2).1, (bcell h.2).2, h.2.size⟩

theorem isSome_set (c : Array Value) (i j : Nat) (v : Value) : ((c.setIfInBounds i v)[j]?).isSome = (c[j]?).isSome := by
  rcases Nat.lt_or_ge j c.size with h | h
  · rw [Array.getElem?_eq_getElem (by simpa using h), Array.getElem?_eq_getElem h]; rfl
  · rw [Array.getElem?_eq_none (by simpa using h), Array.getElem?_eq_none h]
/-- a store lets every cell stand -/
@[go_sem] theorem isSome_setCell (w : World) (a b : Addr) (v : Value) : ((w.setCell a v).cell? b).isSome = (w.cell? b).isSome := by
  unfold World.cell? World.setCell
  simp only [Array.getElem?_modify]
  by_cases h : a.block = b.block
  · rw [if_pos h, ← h]
    cases hw : w.heap[a.block]? with
    | none => rfl
    | some o =>
      cases o <;> simp only [Option.map_some]
      split
      · rfl
      · split
        · rfl
        · exact isSome_set _ _ _ _
  · rw [if_neg h]
section
variable {α : Type}
theorem n1 {x : α} {l m : List α} : (x :: l) ++ m = x :: (l ++ m) := rfl
theorem n2 {l : List α} : [] ++ l = l := rfl
theorem n3 {x y : α} {l : List α} : (x :: l).set 0 y = y :: l := rfl
theorem n4 {x y : α} {l : List α} {i : Nat} : (x :: l).set (i + 1) y = x :: l.set i y := rfl
theorem n5 {l : List α} {i : Nat} {x : α} : l.toArray.setIfInBounds i x = (l.set i x).toArray := List.setIfInBounds_toArray ..
theorem n6 {xs : Array α} {i : Nat} {d : α} : xs.getD i d = xs[i]?.getD d := Array.getD_eq_getD_getElem? ..
theorem n7 {l : List α} {i : Nat} : l.toArray[i]? = l[i]? := List.getElem?_toArray ..
theorem n8 {x : α} {l : List α} : (x :: l)[0]? = some x := rfl
theorem n9 {x : α} {l : List α} {i : Nat} : (x :: l)[i + 1]? = l[i]? := rfl
theorem n10 {x d : α} : (some x).getD d = x := rfl
end
theorem nn : (∀ (α : Type) (x : α) (l m : List α), (x :: l) ++ m = x :: (l ++ m)) ∧ (∀ (α : Type) (l : List α), [] ++ l = l) ∧ (∀ (α : Type) (x y : α) (l : List α), (x :: l).set 0 y = y :: l) ∧ (∀ (α : Type) (x y : α) (l : List α) (i : Nat), (x :: l).set (i + 1) y = x :: l.set i y) ∧
    (∀ (α : Type) (l : List α) (i : Nat) (x : α), l.toArray.setIfInBounds i x = (l.set i x).toArray) ∧ (∀ (α : Type) (xs : Array α) (i : Nat) (d : α), xs.getD i d = xs[i]?.getD d) ∧ (∀ (α : Type) (l : List α) (i : Nat), l.toArray[i]? = l[i]?) ∧
    (∀ (α : Type) (x : α) (l : List α), (x :: l)[0]? = some x) ∧ (∀ (α : Type) (x : α) (l : List α) (i : Nat), (x :: l)[i + 1]? = l[i]?) ∧ (∀ (α : Type) (x d : α), (some x).getD d = x) :=
  ⟨fun _ _ _ _ => rfl, fun _ _ => rfl, fun _ _ _ _ => rfl, fun _ _ _ _ _ => rfl, fun _ _ _ _ => List.setIfInBounds_toArray .., fun _ _ _ _ => Array.getD_eq_getD_getElem? .., fun _ _ _ => List.getElem?_toArray .., fun _ _ _ => rfl, fun _ _ _ _ => rfl, fun _ _ _ => rfl⟩
theorem bel {n : Nat} {w w' : World} (h : Below n w w' := by (repeat' (first | (with_reducible exact Below.refl _ _) | (with_reducible assumption) | (with_reducible refine Below.alloc ?_ ?_ _) | (with_reducible refine Below.drew ?_) | (with_reducible refine Below.setCell ?_ ?_ _) | (refine Below.trans ?_ (Below.mono (by with_reducible assumption) ?_)) | go_size))) : Below n w w' := h
theorem szl {p : Prop} (h : p := by ((try simp only [World.size_alloc, World.size_setCell, World.size_drew]); omega)) : p := h
theorem np : (∀ (α : Type) (x y : α) (l : List α), (x :: l).set 0 y = y :: l) ∧ (∀ (α : Type) (x y : α) (l : List α) (i : Nat), (x :: l).set (i + 1) y = x :: l.set i y) ∧ (∀ (α : Type) (l : List α) (i : Nat) (x : α), l.toArray.setIfInBounds i x = (l.set i x).toArray) :=
  ⟨fun _ _ _ _ => rfl, fun _ _ _ _ _ => rfl, fun _ _ _ _ => List.setIfInBounds_toArray ..⟩
theorem ws : (∀ (w : World) (o : Obj), (w.alloc o).heap.size = w.heap.size + 1) ∧ (∀ (w : World) (a : Addr) (v : Value), (w.setCell a v).heap.size = w.heap.size) ∧ (∀ w : World, w.drew.heap.size = w.heap.size) :=
  ⟨fun _ _ => World.size_alloc .., fun _ _ _ => World.size_setCell .., fun _ => World.size_drew ..⟩
end Go.Proofs.YtbkjhdohkdeniaaDoor
