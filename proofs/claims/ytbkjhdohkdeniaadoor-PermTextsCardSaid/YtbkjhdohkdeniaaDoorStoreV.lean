/- A value of one cell stored into a block known whole. Conditions: none. -/
import Derived.Test.YtbkjhdohkdeniaaDoorMBox
namespace Go.Proofs.YtbkjhdohkdeniaaDoor
open Go.RowKit
set_option linter.unusedVariables false
set_option linter.unusedSimpArgs false
set_option maxRecDepth 100000

section
variable {P : Program}
theorem run_storeVar_val (w : World) (b o : Nat) (ty : TypeId) (v : Value) (ht : w.there b o 1) (hi : (P.info? ty).map (·.size) = some 1) (h1 : v.oneCell' = true) :
    (storeVar ty ⟨b, o, none⟩ v).run P w = .ok () (w.setCells b o [v]) := by
  have := run_storeCells_cells (P := P) b o [v] 0 w (fun j hj => by simpa using (ht j (by simpa using hj)).1) (fun j hj => by simpa using (ht j (by simpa using hj)).2)
    (fun u hu => by simp at hu; subst hu; exact h1)
  have hc : v.cells = #[v] := by cases v <;> first | rfl | cases h1
  cases hq : P.info? ty with
  | none => simp [hq] at hi
  | some i =>
    have hs : i.size = 1 := by simpa [hq] using hi
    simp only [Nat.add_zero] at this
    simp [storeVar, sizeOf, typeInfo, hq, hc, hs, this]
theorem wp_store_val {o : Oper} {a : Act} {w : World} {K : Act → World → Prop} {Q : Exit → Act → World → Prop} (ty : TypeId) (x y : Operand) (ho : o.op = .store ty x y)
    {g p : Nat} {t : TypeId} {old : Array Value} {v : Value} (hg : Box w g t old) (hx : a.eval x = .pointer (some ⟨g, p, none⟩)) (hy : a.eval y = v) (h1 : v.oneCell' = true) {new : List Value} (hnew : old.toList.set p v = new) (hp : p < old.size) (hi : (P.info? ty).map (·.size) = some 1)
    (h : ∀ w', Box w' g t new.toArray → w.grownBy w' (some g) → w'.heap.size = w.heap.size → K (a.put o.dst undef) w') : o.wp P a w K Q := by
  subst hnew
  have hb := hg.set_ p v
  have hcells : (w.setCells g p [v]) = w.setCell ⟨g, p, none⟩ v := rfl
  unfold Oper.wp execOp
  simp only [ho, hx, hy, Instr.storeAt, Instr.sureAddr, Sem.run_bind, Sem.run_pure, Result.andThen_ok, run_storeVar_val (P := P) w g p ty v (fun j hj => by
    obtain rfl : j = 0 := by omega
    rw [Nat.add_zero, hg.cell, hg.frozen, Array.getElem?_eq_getElem hp]
    exact ⟨rfl, rfl⟩) hi h1, hcells]
  refine h _ ?_ (grown_setCell _ _ _ _) (by simp [World.size_setCell])
  have e : old.setIfInBounds p v = (old.toList.set p v).toArray := by rw [← Array.toList_setIfInBounds]
  rw [← e]; exact hb
theorem wpList_store_val {ops : Array Oper} {rest : List Oper} {o : Oper} {a : Act} {w : World} {Q : Exit → Act → World → Prop} (hgd : o.guard = none) (ty : TypeId) (x y : Operand) (ho : o.op = .store ty x y)
    {g p : Nat} {t : TypeId} {old : Array Value} {v : Value} (hg : Box w g t old) (hx : a.eval x = .pointer (some ⟨g, p, none⟩)) (hy : a.eval y = v) (h1 : v.oneCell' = true) {new : List Value} (hnew : old.toList.set p v = new) (hp : p < old.size) (hi : (P.info? ty).map (·.size) = some 1)
    (h : ∀ w', Box w' g t new.toArray → w.grownBy w' (some g) → w'.heap.size = w.heap.size → wpList P ops Q rest (a.put o.dst undef) w') : wpList P ops Q (o :: rest) a w :=
  wpList_plain hgd fun _ hK => wp_store_val ty x y ho hg hx hy h1 hnew hp hi fun w' b1 b2 b3 => hK _ _ (h w' b1 b2 b3)
theorem step_store_val {ops : Array Oper} {o : Oper} {a : Act} {w : World} {K : Act → World → Prop} {Q : Exit → Act → World → Prop} {G : Prop} (hgd : o.guard = none) (ty : TypeId) (x y : Operand) (ho : o.op = .store ty x y)
    {g p : Nat} {t : TypeId} {old : Array Value} {v : Value} (hg : Box w g t old) (hx : a.eval x = .pointer (some ⟨g, p, none⟩)) (hy : a.eval y = v) (h1 : v.oneCell' = true) {new : List Value} (hnew : old.toList.set p v = new) (hp : p < old.size) (hi : (P.info? ty).map (·.size) = some 1)
    (h : ∀ w', Box w' g t new.toArray → w.grownBy w' (some g) → w'.heap.size = w.heap.size → K (a.put o.dst undef) w') :
    if Region.wanted o (yielded ops a.tmps) = true then Oper.wp P o a w K Q else G := by
  have hw : Region.wanted o (yielded ops a.tmps) = true := by simp [Region.wanted, hgd]
  rw [if_pos hw]
  exact wp_store_val ty x y ho hg hx hy h1 hnew hp hi h
end
end Go.Proofs.YtbkjhdohkdeniaaDoor
