/- What the parts say: Blocks that are known whole: a struct in a variable of the call's own, loaded and stored as one. Conditions: none. -/
import Derived.Test.YtbkjhdohkdeniaaGreatDoorP08
import Derived.Laws.Tables
import Derived.Laws.AppendOwn
set_option linter.unusedVariables false
set_option linter.unusedSimpArgs false
namespace Go.Proofs.YtbkjhdohkdeniaaGreatDoor
open Go.RowKit
set_option maxRecDepth 100000

def Box (w : World) (g : Nat) (t : TypeId) (cs : Array Value) : Prop := w.heap[g]? = some (.cells cs t (0, 0))
section
variable {w w' : World} {g : Nat} {t : TypeId} {cs : Array Value}
theorem Box.lt (h : Box w g t cs) : g < w.heap.size := (Array.getElem?_eq_some_iff.1 h).1
theorem Box.cell (h : Box w g t cs) (o : Nat) : w.cell? ⟨g, o, none⟩ = cs[o]? := cell_of_row w g o cs t (0, 0) h
theorem Box.frozen (h : Box w g t cs) (o : Nat) : w.frozen? ⟨g, o, none⟩ = false := by unfold Box at h; simp [World.frozen?, h]
theorem Box.new (w : World) (t : TypeId) (cs : Array Value) {g : Nat} (hg : g = w.heap.size) : Box (w.alloc (.cells cs t)) g t cs := by subst hg; exact heap_alloc_new w _
theorem Box.keep (h : Box w g t cs) (hk : w'.heap[g]? = w.heap[g]?) : Box w' g t cs := hk.trans h
theorem Box.alloc (h : Box w g t cs) (o : Obj) : Box (w.alloc o) g t cs := h.keep (Below.heap_alloc w o g h.lt)
theorem Box.drew (h : Box w g t cs) : Box w.drew g t cs := h
theorem Box.below {B : Nat} (h : Box w g t cs) (hb : Below B w w') (hg : g < B) : Box w' g t cs := h.keep (hb.block g hg)
theorem Box.on (h : Box w g t cs) (hb : Below w.heap.size w w') : Box w' g t cs := h.keep (hb.block g h.lt)
theorem Box.grown {row : Option Nat} (h : Box w g t cs) (hb : w.grownBy w' row) (hg : some g ≠ row) : Box w' g t cs := h.keep (hb.block g h.lt hg)
theorem Box.set_ (h : Box w g t cs) (i : Nat) (u : Value) : Box (w.setCell ⟨g, i, none⟩ u) g t (cs.setIfInBounds i u) := by
  unfold Box at h ⊢
  simp [World.setCell, Array.getElem?_modify, h]
end
theorem grown_setRow (w : World) (g : Nat) (cs : Array Value) : w.grownBy (w.setRow g cs) (some g) :=
  ⟨rfl, rfl, rfl, by rw [setRow_size]; exact Nat.le_refl _, fun k hk hne => setRow_other w g k cs (fun e => hne (by rw [e]))⟩
section
variable {P : Program}
theorem wpList_store_box {ops : Array Oper} {rest : List Oper} {o : Oper} {a : Act} {w : World} {Q : Exit → Act → World → Prop} (hgd : o.guard = none) (ty : TypeId) (x y : Operand) (ho : o.op = .store ty x y)
    {g : Nat} {cells : Array Value} {t : TypeId} {old : Array Value} (hg : Box w g t old) (hx : a.eval x = .pointer (some ⟨g, 0, none⟩)) (hy : a.eval y = .agg cells) (hi : (P.info? ty).map (·.size) = some cells.size)
    (hold : old.size = cells.size) (h1 : cells.all (·.oneCell') = true)
    (h : ∀ w', Box w' g t cells → w.grownBy w' (some g) → w'.heap.size = w.heap.size → wpList P ops Q rest (a.put o.dst undef) w') : wpList P ops Q (o :: rest) a w :=
  wpList_store_row hgd ty x y ho g cells hx hy t old hg hi hold h1 (h _ (setRow_heap w g old cells t (0, 0) hg) (grown_setRow w g cells) (setRow_size w g cells))
section
variable {fn : Func} {tmps : Array Value} {w : World} {g : Nat} {t ty : TypeId} {cs : Array Value} {d : TypeDesc} {p q r : Tmp}
theorem results_ct (h : fn.results = #[.cell p ty, .tmp q]) (hp : tmps.getD p undef = .pointer (some ⟨g, 0, none⟩)) (hg : Box w g t cs) (hu : P.underlying ty = some d) (hd : (match d with | .struct _ | .array _ _ => true | _ => false) = true) (hi : (P.info? ty).map (·.size) = some cs.size) :
    (results fn tmps).run P w = .ok (.tuple #[.agg cs, tmps.getD q undef]) w := by
  have hp' : tmps[p]?.getD undef = .pointer (some ⟨g, 0, none⟩) := by simpa using hp
  simp [results, h, hp', asAddr, run_loadVar_row w g t ty cs (0, 0) d hg hu hd hi]
theorem results_ctt (h : fn.results = #[.cell p ty, .tmp q, .tmp r]) (hp : tmps.getD p undef = .pointer (some ⟨g, 0, none⟩)) (hg : Box w g t cs) (hu : P.underlying ty = some d) (hd : (match d with | .struct _ | .array _ _ => true | _ => false) = true) (hi : (P.info? ty).map (·.size) = some cs.size) :
    (results fn tmps).run P w = .ok (.tuple #[.agg cs, tmps.getD q undef, tmps.getD r undef]) w := by
  have hp' : tmps[p]?.getD undef = .pointer (some ⟨g, 0, none⟩) := by simpa using hp
  simp [results, h, hp', asAddr, run_loadVar_row w g t ty cs (0, 0) d hg hu hd hi]
end
end
structure KeptB (w : World) (bs : List (Array Value × TypeId)) (W : World) : Prop where
  below : Below w.heap.size w W
  size : w.heap.size + bs.length ≤ W.heap.size
  box : ∀ i c, bs[i]? = some c → Box W (w.heap.size + i) c.2 c.1
section
variable {w W W' : World} {bs : List (Array Value × TypeId)}
theorem KeptB.on (h : KeptB w bs W) (hb : Below W.heap.size W W') : KeptB w bs W' :=
  ⟨h.below.trans (hb.mono h.below.size), by have := h.size; have := hb.size; omega, fun i c hi => (h.box i c hi).on hb⟩
theorem KeptB.alloc (h : KeptB w bs W) (o : Obj) : KeptB w bs (W.alloc o) := h.on ((Below.refl _ _).alloc (Nat.le_refl _) _)
theorem KeptB.drew (h : KeptB w bs W) : KeptB w bs W.drew := ⟨h.below.drew, h.size, h.box⟩
theorem KeptB.nil_ (h : Below w.heap.size w W) : KeptB w [] W := ⟨h, h.size, fun i c hi => by simp at hi⟩
theorem KeptB.more (h : KeptB w bs W) {cs : Array Value} {t : TypeId} (hz : W.heap.size = w.heap.size + bs.length) : KeptB w (bs ++ [(cs, t)]) (W.alloc (.cells cs t)) := by
  refine ⟨h.below.alloc (by omega) _, by rw [List.length_append, World.size_alloc]; simp; omega, fun i c hi => ?_⟩
  rcases Nat.lt_or_ge i bs.length with hl | hl
  · rw [List.getElem?_append_left hl] at hi
    exact (h.box i c hi).alloc _
  · rw [List.getElem?_append_right hl] at hi
    have h0 : i - bs.length = 0 := by
      have := (List.getElem?_eq_some_iff.1 hi).1
      simp at this
      omega
    rw [h0] at hi
    cases hi
    exact Box.new W t cs (by omega)
end
end Go.Proofs.YtbkjhdohkdeniaaGreatDoor
