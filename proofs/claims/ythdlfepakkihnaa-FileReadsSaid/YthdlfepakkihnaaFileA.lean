/- A string constant as bytes: a block of the call's own that is marked; what is put to it. Conditions: none. -/
import Derived.Test.YthdlfepakkihnaaAppStr
import Derived.Lib.SlBytesConst
namespace Go.Proofs.Ythdlfepakkihnaa
open Go.RowKit Go.Lib
set_option linter.unusedVariables false
set_option linter.unusedSimpArgs false
set_option maxRecDepth 100000
theorem flat8_len (xs : List UInt8) : (xs.flatMap enc8).length = xs.length := by
  have := flat_len len_8 (xs := xs); omega
theorem flat8_at (xs : List UInt8) (k : Nat) : (xs.flatMap enc8)[k]? = (xs[k]?).map fun b => Value.int .u8 b.toNat := by
  have : xs.flatMap enc8 = xs.map fun b => Value.int .u8 b.toNat := by
    induction xs with
    | nil => rfl
    | cons b l ih => rw [List.flatMap_cons, List.map_cons, ← ih]; rfl
  rw [this, List.getElem?_map]
section
variable {P : Program} {ops : Array Oper} {rest : List Oper} {o o1 o2 : Oper} {a : Act} {T : Nat → Prop} {w0 w : World} {rs : List Res} {K : Act → World → Prop} {Q : Exit → Act → World → Prop}
theorem listI_bytesC (hg1 : o1.guard = none) (hg2 : o2.guard = none) (t e : TypeId) (n : Nat) (parts : Array (Nat × Operand)) (ho1 : o1.op = .buildSlice t n parts) (x : Operand) (ho2 : o2.op = .convert t t x) (hxv : ∀ v, (a.put o1.dst v).eval x = v) (hI : InvT T w0 rs w) (hu : P.underlying t = some (.slice e)) (hu8 : P.underlying e = some (.int .u8))
    (xs : List UInt8) (hie : (P.info? e).map (fun i => (i.zero, i.size)) = some (some (.int .u8 0), 1)) (hx : xs.length = n) (hn : n ≤ 1000) (hp : ¬ n = 0)
    (hf : Instr.fill (fun i => some (i * 1, 1)) ((Array.range (n * 1)).map ((Value.int .u8 0).cells[· % 1]!)) (parts.map fun (i, x) => (i, a.eval x)).toList = some (xs.flatMap enc8).toArray)
    (h : ∀ g w', InvT T w0 (rs ++ [.obj g (.cells (xs.flatMap enc8).toArray e (n, n + 1))]) w' → wpList P ops Q rest ((a.put o1.dst (.slice (some ⟨g, 0, none⟩) n n)).put o2.dst (.slice (some ⟨g, 0, none⟩) n n)) w') : wpList P ops Q (o1 :: o2 :: rest) a w := by
  subst hx
  cases hi : P.info? e with
  | none => simp [hi] at hie
  | some i =>
    simp only [hi, Option.map_some, Option.some.injEq, Prod.mk.injEq] at hie
    obtain ⟨hz, hsz⟩ := hie
    have hc : (Value.int .u8 0).cells.size = 1 := rfl
    refine wpList_plain hg1 fun K hK => ?_
    refine wp_buildSlice t e xs.length parts ho1 (xs.flatMap enc8).toArray i (.int .u8 0) hu hi hz (by rw [hsz]; omega) (by rw [hsz]; omega) (by rw [hsz]; exact hf) (hK _ _ ?_)
    refine wpList_plain hg2 fun K2 hK2 => ?_
    unfold Oper.wp execOp
    simp only [ho2, hxv, Sem.run_bind, Sem.run_pure, Result.andThen_ok, run_convert_bytes_const w t e _ _ _ hu hu8]
    refine hK2 _ _ (h _ _ (hI.more ((Below.refl _ _).alloc (Nat.le_refl _) _) ?_ (fun k hk => by cases hk; exact Nat.le_refl _)))
    show _ = _
    rw [List.size_toArray, flat8_len]
    exact heap_alloc_new w _
theorem wpI_appC {t e : TypeId} (s x : Operand) (ho : o.op = .call { callee := .builtin .append, args := #[s, x], argTypes := #[t, t] }) (E : ElT P enc8 t e 1 1) (hI : InvT T w0 rs w) (i : Nat) {g n : Nat} {fr : Nat × Nat} {xs ys : List UInt8} (hs : a.eval s = .slice (some ⟨g, 0, none⟩) n n) (hi : rs[i]? = some (.obj g (.cells (xs.flatMap enc8).toArray e fr))) (hn : xs.length = n)
    {B : Nat} {A : Option Addr} {c m : Nat} (hx : a.eval x = .slice A m c) (hL : Lies enc8 1 w B A ys) (hm : ys.length = m) (hpos : 0 < m) (hb : n + m ≤ 1000000)
    (h : ∀ v' w', InvT T w0 (rs ++ [.row e 1 v' (xs ++ ys).length ((xs ++ ys).flatMap enc8)]) w' → Below w.heap.size w w' → K (a.put o.dst v') w') : o.wp P a w K Q := by
  subst hn hm
  obtain ⟨iT, z, hIi, hz, hs1, hby, hzs⟩ := E.info
  obtain ⟨b, off, rfl, hb', hc⟩ := hL (by intro e0; rw [e0] at hpos; cases hpos)
  have hg : w.heap[g]? = some (.cells (xs.flatMap enc8).toArray e fr) := hI.ok i _ hi
  have hr := run_append_grow (P := P) w t o.type e iT z E.under hIi hz ⟨g, 0, none⟩ xs.length xs.length (xs.flatMap enc8) (by rw [hs1, flat8_len, Nat.mul_one]) (fun j v hj => by
    have e1 : (⟨g, 0, none⟩ : Addr).add j = ⟨g, 0 + j, none⟩ := by unfold Addr.add; split <;> simp_all
    rw [e1, Nat.zero_add]
    simp only [World.cell?, hg]
    rw [List.getElem?_toArray, hj]; rfl) ⟨b, off, none⟩ ys.length c (ys.flatMap enc8) (by rw [hs1, flat8_len, Nat.mul_one]) (fun j v hj => by
    have e1 : (⟨b, off, none⟩ : Addr).add j = ⟨b, off + j, none⟩ := by unfold Addr.add; split <;> simp_all
    rw [flat8_at] at hj
    cases hy : ys[j]? with
    | none => rw [hy] at hj; cases hj
    | some y =>
      have := hc j y hy 0 (by decide)
      rw [e1, show off + j = off + j * 1 + 0 by omega, this]
      rw [hy] at hj
      exact hj) (by omega) (by omega) (by rw [hby]; exact growslice_fits (by omega) (by omega))
  unfold Oper.wp execOp
  simp only [ho, resolve, invoke, builtin, Sem.run_bind, Sem.run_pure, Result.andThen_ok, List.map_toArray, List.map_cons, List.map_nil, hs, hx, hr]
  have hge := grownCap_ge w (xs.length + ys.length) xs.length e
  have hcm : grownCap w (xs.length + ys.length) xs.length e ≤ maxLen := grownCap_le_maxLen w (xs.length + ys.length) xs.length e (by unfold maxLen; omega)
  have hB : Below w.heap.size w (w.drew.alloc (.cells ((xs.flatMap enc8).toArray ++ (ys.flatMap enc8).toArray ++ Builtin.zeroCells z.cells (grownCap w (xs.length + ys.length) xs.length e - (xs.length + ys.length))) e)) := (Below.drew (Below.refl _ _)).alloc (Nat.le_refl _) _
  refine h _ _ (hI.more hB ?_ (fun k hk => by cases hk; exact Nat.le_refl _)) hB
  have hlen : ((xs ++ ys).flatMap enc8).length = (xs ++ ys).length * 1 := by rw [flat8_len, Nat.mul_one]
  refine ⟨hlen, .inr ⟨w.heap.size, _, _, ?_, Nat.zero_le _, heap_alloc_new w.drew _, ?_, hcm, ?_, ?_⟩⟩
  · rw [List.length_append]
  · rw [List.length_append]; exact hge
  · simp only [Array.size_append, List.size_toArray, size_zeroCells, hzs, flat8_len]
    omega
  · simp only [Array.toList_append, List.append_assoc]
    rw [← List.append_assoc, ← List.flatMap_append, ← hlen]
    exact List.take_left
end
end Go.Proofs.Ythdlfepakkihnaa
