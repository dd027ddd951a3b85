/- Regions that draw their order, in a class of worlds: the caller's own blocks are as they were, and what was there before the call. Conditions: none. -/
import Derived.Test.YtbkjhdohkdeniaaDoorBase
import Derived.Deep.Quiet
import Derived.BigQuiet
namespace Go.Proofs.YtbkjhdohkdeniaaDoor
open Go.RowKit
set_option linter.unusedVariables false
set_option linter.unusedSimpArgs false
set_option maxRecDepth 100000

/-! A region that draws its order, in a class of worlds: the caller's own blocks are as they were, and what was there before the call. -/
section
variable {P : Program} {ops : Array Oper} {C : World → Prop} {a : Act} {o : Oper} {K : Act → Prop}
theorem quiet_run {v : Value} (h : ∀ w, C w → (execOp a.eval o).run P w = .ok (.value v) w) (hk : K (a.put o.dst v)) : o.quiet P a C K :=
  ⟨v, fun w hw => by unfold Oper.quietAt; rw [h w hw]; exact ⟨rfl, rfl⟩, hk⟩
theorem quiet_call {v : Value} {f : FuncId} {args : Array Value} (h : ∀ w, (execOp a.eval o).run P w = .ok (.enter f args) w)
    (hc : ∀ w, C w → Calls P f args w (fun e w1 => e = .returned v ∧ C w1)) (hk : K (a.put o.dst v)) : o.quiet P a C K :=
  ⟨v, fun w hw => by unfold Oper.quietAt; rw [h w]; exact ⟨rfl, hc w hw⟩, hk⟩
theorem wpQ_run {Q : Act → Prop} {rest : List Oper} {v : Value} (hw : Region.wanted o (yielded ops a.tmps) = true) (h : ∀ w, C w → (execOp a.eval o).run P w = .ok (.value v) w) (hk : wpQuiet P ops C Q rest (a.put o.dst v)) : wpQuiet P ops C Q (o :: rest) a :=
  BigFrame.wpQuiet_want hw fun K hK => ⟨v, fun w hw => by unfold Oper.quietAt; rw [h w hw]; exact ⟨rfl, rfl⟩, hK _ hk⟩
theorem wpQ_skip {Q : Act → Prop} {rest : List Oper} (hw : Region.wanted o (yielded ops a.tmps) = true) (h : ∀ w, C w → (execOp a.eval o).run P w = .ok .skip w) (hk : wpQuiet P ops C Q rest (a.put o.dst undef)) : wpQuiet P ops C Q (o :: rest) a :=
  BigFrame.wpQuiet_want hw fun K hK => ⟨undef, fun w hw => by unfold Oper.quietAt; rw [h w hw]; exact ⟨rfl, rfl⟩, hK _ hk⟩
theorem wpQ_move {Q : Act → Prop} {rest : List Oper} (x : Operand) (hw : Region.wanted o (yielded ops a.tmps) = true) (h : o.op = .move x) (hk : wpQuiet P ops C Q rest (a.put o.dst (a.eval x))) : wpQuiet P ops C Q (o :: rest) a :=
  BigFrame.wpQuiet_want hw fun K hK => BigFrame.quiet_move x h (hK _ hk)
theorem wpQ_assign {Q : Act → Prop} {rest : List Oper} (x : Operand) (hw : Region.wanted o (yielded ops a.tmps) = true) (h : o.op = .assign x) (hk : wpQuiet P ops C Q rest (a.put o.dst (a.eval x))) : wpQuiet P ops C Q (o :: rest) a :=
  BigFrame.wpQuiet_want hw fun K hK => BigFrame.quiet_assign x h (hK _ hk)
theorem wpQ_call {Q : Act → Prop} {rest : List Oper} {v : Value} {f : FuncId} {args : Array Value} (hw : Region.wanted o (yielded ops a.tmps) = true) (h : ∀ w, (execOp a.eval o).run P w = .ok (.enter f args) w)
    (hc : ∀ w, C w → Calls P f args w (fun e w1 => e = .returned v ∧ C w1)) (hk : wpQuiet P ops C Q rest (a.put o.dst v)) : wpQuiet P ops C Q (o :: rest) a :=
  BigFrame.wpQuiet_want hw fun K hK => ⟨v, fun w hw => by unfold Oper.quietAt; rw [h w]; exact ⟨rfl, hc w hw⟩, hK _ hk⟩
end

/-- W is w with the blocks bs behind it, and more behind those -/
structure Kept (w : World) (bs : List (Array Value)) (W : World) : Prop where
  below : Below w.heap.size w W
  size : w.heap.size + bs.length ≤ W.heap.size
  cell : ∀ i cs, bs[i]? = some cs → ∀ o, W.cell? ⟨w.heap.size + i, o, none⟩ = cs[o]?
  frozen : ∀ i cs, bs[i]? = some cs → ∀ o, W.frozen? ⟨w.heap.size + i, o, none⟩ = false
theorem Kept.ret {w W w1 : World} {bs : List (Array Value)} {v : Value} {e : Ending} (h : Kept w bs W) (hr : Ret v W e w1) : e = .returned v ∧ Kept w bs w1 := by
  obtain ⟨he, hb, hc, hf, hz⟩ := hr.use
  have hs := h.size
  have hl : ∀ i cs, bs[i]? = some cs → w.heap.size + i < W.heap.size := fun i cs hi => by
    have := (List.getElem?_eq_some_iff.1 hi).1
    omega
  exact ⟨he, h.below.trans (hb.mono (by omega)), by omega, fun i cs hi o => (hc _ o (hl i cs hi)).trans (h.cell i cs hi o), fun i cs hi o => (hf _ o (hl i cs hi)).trans (h.frozen i cs hi o)⟩
theorem Kept.same {w W : World} {bs : List (Array Value)} {v : Value} {e : Ending} {w1 : World} (h : Kept w bs W) (hr : e = .returned v ∧ W = w1) : e = .returned v ∧ Kept w bs w1 := by
  obtain ⟨he, rfl⟩ := hr
  exact ⟨he, h⟩
theorem Kept.drew {w W : World} {bs : List (Array Value)} (h : Kept w bs W) : Kept w bs W.drew := ⟨h.below.drew, h.size, h.cell, h.frozen⟩
theorem wp_region_kept {P : Program} {id : Nat} {Q : Exit → Act → World → Prop} {a : Act} {w w0 : World} {bs : List (Array Value)} {l : List Oper} (hm : P.follows .mixedOrders = true) (hB : Region.lexB .any l.toArray = true) (hC : Kept w0 bs w)
    (h : wpQuiet P l.toArray (Kept w0 bs) (fun a' => ∀ w', Kept w0 bs w' → Q .normal a' w') l a) : (Code.region id l.toArray true).wp P Q a w :=
  wp_region_quiet (C := Kept w0 bs) hm hB hC.drew (by simpa using h)
theorem Kept.mk0 {w W : World} (hb : Below w.heap.size w W) : Kept w [] W :=
  ⟨hb, hb.size, fun i cs h => by simp at h, fun i cs h => by simp at h⟩
theorem Kept.mk1 {w W : World} {c : Array Value} (hb : Below w.heap.size w W) (hs : w.heap.size + 1 ≤ W.heap.size) (c0 : ∀ o, W.cell? ⟨w.heap.size, o, none⟩ = c[o]?) (f0 : ∀ o, W.frozen? ⟨w.heap.size, o, none⟩ = false) : Kept w [c] W :=
  ⟨hb, hs, fun i cs h => by
    match i, h with
    | 0, h => cases h; exact c0, fun i cs h => by
    match i, h with
    | 0, h => cases h; exact f0⟩
theorem Kept.mk2 {w W : World} {c d : Array Value} (hb : Below w.heap.size w W) (hs : w.heap.size + 2 ≤ W.heap.size) (c0 : ∀ o, W.cell? ⟨w.heap.size, o, none⟩ = c[o]?) (f0 : ∀ o, W.frozen? ⟨w.heap.size, o, none⟩ = false)
    (c1 : ∀ o, W.cell? ⟨w.heap.size + 1, o, none⟩ = d[o]?) (f1 : ∀ o, W.frozen? ⟨w.heap.size + 1, o, none⟩ = false) : Kept w [c, d] W :=
  ⟨hb, hs, fun i cs h => by
    match i, h with
    | 0, h => cases h; exact c0
    | 1, h => cases h; exact c1, fun i cs h => by
    match i, h with
    | 0, h => cases h; exact f0
    | 1, h => cases h; exact f1⟩
theorem Kept.mk3 {w W : World} {c d g : Array Value} (hb : Below w.heap.size w W) (hs : w.heap.size + 3 ≤ W.heap.size) (c0 : ∀ o, W.cell? ⟨w.heap.size, o, none⟩ = c[o]?) (f0 : ∀ o, W.frozen? ⟨w.heap.size, o, none⟩ = false)
    (c1 : ∀ o, W.cell? ⟨w.heap.size + 1, o, none⟩ = d[o]?) (f1 : ∀ o, W.frozen? ⟨w.heap.size + 1, o, none⟩ = false)
    (c2 : ∀ o, W.cell? ⟨w.heap.size + 2, o, none⟩ = g[o]?) (f2 : ∀ o, W.frozen? ⟨w.heap.size + 2, o, none⟩ = false) : Kept w [c, d, g] W :=
  ⟨hb, hs, fun i cs h => by
    match i, h with
    | 0, h => cases h; exact c0
    | 1, h => cases h; exact c1
    | 2, h => cases h; exact c2, fun i cs h => by
    match i, h with
    | 0, h => cases h; exact f0
    | 1, h => cases h; exact f1
    | 2, h => cases h; exact f2⟩
end Go.Proofs.YtbkjhdohkdeniaaDoor
