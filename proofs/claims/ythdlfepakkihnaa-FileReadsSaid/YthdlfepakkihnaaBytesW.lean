/- Rows of bytes of the call's own: made of a literal, turned into a string. Conditions: none. -/
import Derived.Test.YthdlfepakkihnaaBytes2
namespace Go.Proofs.Ythdlfepakkihnaa
open Go.RowKit
set_option linter.unusedVariables false
set_option linter.unusedSimpArgs false
set_option maxRecDepth 100000
theorem InvT.allocRow {T : Nat → Prop} {w0 w : World} {rs : List Res} (h : InvT T w0 rs w) (e : TypeId) (us : List Value) (size n : Nat) (hn : us.length = n * size) (h63 : n ≤ maxLen) : InvT T w0 (rs ++ [.row e size (.slice (some ⟨w.heap.size, 0, none⟩) n n) n us]) (w.alloc (.cells us.toArray e)) := by
  refine h.more ((Below.refl _ _).alloc (Nat.le_refl _) _) ⟨hn, .inr ⟨w.heap.size, n, us.toArray, rfl, Nat.zero_le _, heap_alloc_new w _, Nat.le_refl _, h63, ?_, ?_⟩⟩ (fun k hk => ?_)
  · rw [List.size_toArray]; exact hn
  · rw [← hn]; exact List.take_length
  · cases hk; exact Nat.le_refl _
section
variable {P : Program} {ops : Array Oper} {rest : List Oper} {o : Oper} {a : Act} {T : Nat → Prop} {w0 w : World} {rs : List Res} {K : Act → World → Prop} {Q : Exit → Act → World → Prop}
/-- a slice literal of bytes: a row of one's own -/
theorem wpI_bytes (t e : TypeId) (n : Nat) (parts : Array (Nat × Operand)) (ho : o.op = .buildSlice t n parts) (hI : InvT T w0 rs w) (hu : P.underlying t = some (.slice e)) (xs : List UInt8) (hie : (P.info? e).map (fun i => (i.zero, i.size)) = some (some (.int .u8 0), 1)) (hx : xs.length = n) (hn : n ≤ 1000) (hp : ¬ n = 0)
    (hf : Instr.fill (fun i => some (i * 1, 1)) ((Array.range (n * 1)).map ((Value.int .u8 0).cells[· % 1]!)) (parts.map fun (i, x) => (i, a.eval x)).toList = some (xs.flatMap enc8).toArray)
    (h : ∀ v w', InvT T w0 (rs ++ [.row e 1 v xs.length (xs.flatMap enc8)]) w' → K (a.put o.dst v) w') : o.wp P a w K Q := by
  subst hx
  cases hi : P.info? e with
  | none => simp [hi] at hie
  | some i =>
    simp only [hi, Option.map_some, Option.some.injEq, Prod.mk.injEq] at hie
    obtain ⟨hz, hsz⟩ := hie
    have hc : (Value.int .u8 0).cells.size = 1 := rfl
    refine wp_buildSlice t e xs.length parts ho (xs.flatMap enc8).toArray i (.int .u8 0) hu hi hz (by rw [hsz]; omega) (by rw [hsz]; omega) (by rw [hsz]; exact hf) (h _ _ (hI.allocRow e _ 1 _ (flat_len len_8) (by unfold maxLen; omega)))
end
theorem wpI_strRow {P : Program} {o : Oper} {a : Act} {T : Nat → Prop} {w0 w : World} {rs : List Res} {K : Act → World → Prop} {Q : Exit → Act → World → Prop} (src dst : TypeId) (x : Operand) (ho : o.op = .convert src dst x) (hI : InvT T w0 rs w) (i : Nat) {e' e : TypeId} {v : Value} {xs : List UInt8} (hx : a.eval x = v) (hi : rs[i]? = some (.row e' 1 v xs.length (xs.flatMap enc8))) (hs : P.underlying src = some (.slice e)) (he : P.underlying e = some (.int .u8)) (hd : P.underlying dst = some .string)
    (h : K (a.put o.dst (.string (str xs))) w) : o.wp P a w K Q := by
  obtain ⟨A, c, rfl, hL⟩ := (hI.own0 hi).lies len_8
  exact wpI_str src dst x ho hx hL rfl hs he hd h
end Go.Proofs.Ythdlfepakkihnaa
