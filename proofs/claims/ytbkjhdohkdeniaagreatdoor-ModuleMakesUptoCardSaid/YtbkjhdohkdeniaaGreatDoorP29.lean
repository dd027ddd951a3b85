/- What the parts say: Maps of the call's own whose entries are known, keys strings: made, written, read. Conditions: none. -/
import Derived.Test.YtbkjhdohkdeniaaGreatDoorP13
import Derived.ChangeMaps4
import Derived.ChangeMaps5
import Derived.Carry
set_option linter.unusedVariables false
set_option linter.unusedSimpArgs false
namespace Go.Proofs.YtbkjhdohkdeniaaGreatDoor
open Go.RowKit Go.MapKept Go.ChangeMaps
set_option maxRecDepth 100000
theorem ba_beq (s : ByteArray) : (s == s) = true := by
  cases s with | mk d => exact beq_self_eq_true d
section
variable {T : Nat → Prop} {w0 w : World} {rs : List Res}
theorem InvT.allocObj (h : InvT T w0 rs w) (o : Obj) : InvT T w0 (rs ++ [.obj w.heap.size o]) (w.alloc o) :=
  h.more ((Below.refl _ _).alloc (Nat.le_refl _) _) (MapKept.heap_alloc w o).1 fun k hk => by cases hk; exact Nat.le_refl _
theorem InvT.setObj (h : InvT T w0 rs w) {i g : Nat} {es : Array MapEntry} {clock : Nat} (hi : rs[i]? = some (.obj g (.map es clock))) (o : Obj) : InvT T w0 (rs.set i (.obj g o)) (setBlock w g o) := by
  have hb : w.heap[g]? = some (.map es clock) := h.ok i _ hi
  exact h.turn (r' := .obj g o) hi (row := some g) ⟨rfl, rfl, rfl, by simp [setBlock], fun k _ hk => heap_setBlock_other hb _ (fun e => hk (by rw [e]))⟩ (fun k hk => .inl hk) (heap_setBlock_same hb _) fun k hk => .inl hk
end
section
variable {P : Program} {o : Oper} {a : Act} {T : Nat → Prop} {w0 w : World} {rs : List Res} {K : Act → World → Prop} {Q : Exit → Act → World → Prop}
theorem wpI_makeMap (t : TypeId) (ho : o.op = .makeMap t none) (hI : InvT T w0 rs w) (h : ∀ g w', InvT T w0 (rs ++ [.obj g (.map #[] 0)]) w' → Below w.heap.size w w' → K (a.put o.dst (.map (some g))) w') : o.wp P a w K Q := by
  unfold Oper.wp execOp
  simp only [ho, Sem.run_bind, Sem.run_pure, Result.andThen_ok, Option.map_none, run_makeMap]
  exact h _ _ (hI.allocObj _) ((Below.refl _ _).alloc (Nat.le_refl _) _)
theorem wpI_mapNew (t : TypeId) (m x y : Operand) (ho : o.op = .mapUpdate t m x y) {kt e : TypeId} (ht : P.underlying t = some (.map kt e)) (hk : P.underlying kt = some .string) (hI : InvT T w0 rs w) {g : Nat} (hm : a.eval m = .map (some g)) (i : Nat) {es : Array MapEntry} {clock : Nat} (hi : rs[i]? = some (.obj g (.map es clock)))
    {s : ByteArray} {v : Value} (hx : a.eval x = .string s) (hv : a.eval y = v) (hf : Instr.findNow .string (.string s) es.toList 0 = some none) (h : ∀ w', InvT T w0 (rs.set i (.obj g (.map (es.push ⟨.string s, v, clock⟩) (clock + 1)))) w' → K (a.put o.dst undef) w') : o.wp P a w K Q := by
  have hb : w.heap[g]? = some (.map es clock) := hI.ok i _ hi
  have hr : (Instr.mapUpdate t (.map (some g)) (.string s) v).run P w = .ok () (setBlock w g (.map (es.push ⟨.string s, v, clock⟩) (clock + 1))) := by
    simp [Instr.mapUpdate, run_underlying ht, MapKept.run_getObj_map hb, run_checkKey hk (show IsKey .string (.string s) from trivial), run_findKey hk hf, MapKept.run_setObj_map _ hb, Result.andThen, setBlock]
  unfold Oper.wp execOp
  simp only [ho, hm, hx, hv, Sem.run_bind, Sem.run_pure, Result.andThen_ok, hr]
  exact h _ (hI.setObj hi _)
theorem wpI_insNew (t : TypeId) (m x y : Operand) (ho : o.op = .insert t m x y) {kt e : TypeId} (ht : P.underlying t = some (.map kt e)) (hk : P.underlying kt = some .string) (hI : InvT T w0 rs w) {g : Nat} (hm : a.eval m = .map (some g)) (i : Nat) {es : Array MapEntry} {clock : Nat} (hi : rs[i]? = some (.obj g (.map es clock)))
    {s : ByteArray} {v : Value} (hx : a.eval x = .string s) (hv : a.eval y = v) (hf : Instr.findNow .string (.string s) es.toList 0 = some none) (h : ∀ w', InvT T w0 (rs.set i (.obj g (.map (es.push ⟨.string s, v, clock⟩) (clock + 1)))) w' → K (a.put o.dst undef) w') : o.wp P a w K Q := by
  have hb : w.heap[g]? = some (.map es clock) := hI.ok i _ hi
  have hr : (Instr.mapUpdate t (.map (some g)) (.string s) v).run P w = .ok () (setBlock w g (.map (es.push ⟨.string s, v, clock⟩) (clock + 1))) := by
    simp [Instr.mapUpdate, run_underlying ht, MapKept.run_getObj_map hb, run_checkKey hk (show IsKey .string (.string s) from trivial), run_findKey hk hf, MapKept.run_setObj_map _ hb, Result.andThen, setBlock]
  unfold Oper.wp execOp
  simp only [ho, hm, hx, hv, Sem.run_bind, Sem.run_pure, Result.andThen_ok, hr]
  exact h _ (hI.setObj hi _)
theorem wpI_mapOld (t : TypeId) (m x y : Operand) (ho : o.op = .mapUpdate t m x y) {kt e : TypeId} (ht : P.underlying t = some (.map kt e)) (hk : P.underlying kt = some .string) (hI : InvT T w0 rs w) {g : Nat} (hm : a.eval m = .map (some g)) (i : Nat) {es : Array MapEntry} {clock : Nat} (hi : rs[i]? = some (.obj g (.map es clock)))
    {s : ByteArray} {v u : Value} {j : Nat} (hx : a.eval x = .string s) (hv : a.eval y = v) (hf : Instr.findNow .string (.string s) es.toList 0 = some (some (j, u))) (hj : (es[j]?).map (·.key) = some (.string s)) {es' : Array MapEntry} (he : es.modify j (fun e => { e with key := .string s, val := v }) = es')
    (h : ∀ w', InvT T w0 (rs.set i (.obj g (.map es' clock))) w' → K (a.put o.dst undef) w') : o.wp P a w K Q := by
  subst he
  have hb : w.heap[g]? = some (.map es clock) := hI.ok i _ hi
  have hst : (Instr.keyThatStays (.string s) (.string s)).run P w = .ok (.string s) w := by simp [Instr.keyThatStays, Instr.sameBits, ba_beq s]
  have hr : (Instr.mapUpdate t (.map (some g)) (.string s) v).run P w = .ok () (setBlock w g (.map (es.modify j (fun e => { e with key := .string s, val := v })) clock)) := by
    simp [Instr.mapUpdate, run_underlying ht, MapKept.run_getObj_map hb, run_checkKey hk (show IsKey .string (.string s) from trivial), run_findKey hk hf, MapKept.run_setObj_map _ hb, Result.andThen, setBlock, hj, hst]
  unfold Oper.wp execOp
  simp only [ho, hm, hx, hv, Sem.run_bind, Sem.run_pure, Result.andThen_ok, hr]
  exact h _ (hI.setObj hi _)
theorem run_lookS (t : TypeId) {kt e : TypeId} (ht : P.underlying t = some (.map kt e)) (hk : P.underlying kt = some .string) {g : Nat} {es : Array MapEntry} {clock : Nat} (hb : w.heap[g]? = some (.map es clock)) {s : ByteArray} {u : Value} {j : Nat} (hf : Instr.findNow .string (.string s) es.toList 0 = some (some (j, u))) :
    (Instr.lookup t (.map (some g)) (.string s) false).run P w = .ok u w := by
  simp [Instr.lookup, run_underlying ht, MapKept.run_getObj_map hb, run_checkKey hk (show IsKey .string (.string s) from trivial), run_findKey hk hf, Result.andThen]
theorem wpI_look (t : TypeId) (m x : Operand) (ho : o.op = .lookup t m x false) {kt e : TypeId} (ht : P.underlying t = some (.map kt e)) (hk : P.underlying kt = some .string) (hI : InvT T w0 rs w) {g : Nat} (hm : a.eval m = .map (some g)) (i : Nat) {es : Array MapEntry} {clock : Nat} (hi : rs[i]? = some (.obj g (.map es clock)))
    {s : ByteArray} {u : Value} {j : Nat} (hx : a.eval x = .string s) (hf : Instr.findNow .string (.string s) es.toList 0 = some (some (j, u))) (h : K (a.put o.dst u) w) : o.wp P a w K Q := by
  have hr := run_lookS (P := P) t ht hk (show w.heap[g]? = some (.map es clock) from hI.ok i _ hi) hf
  unfold Oper.wp execOp
  simp only [ho, hm, hx, Sem.run_bind, Sem.run_pure, Result.andThen_ok, hr]
  exact h
end
end Go.Proofs.YtbkjhdohkdeniaaGreatDoor
