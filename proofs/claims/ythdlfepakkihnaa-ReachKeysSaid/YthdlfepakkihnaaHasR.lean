/- The reference's Has, on lists. Conditions: none. -/
import Derived.Test.YthdlfepakkihnaaMods
import Derived.Test.YthdlfepakkihnaaInv
namespace Go.Proofs.Ythdlfepakkihnaa
open Go.RowKit
set_option linter.unusedVariables false
set_option linter.unusedSimpArgs false
set_option maxRecDepth 100000
set_option maxHeartbeats 1000000 in
theorem r_Has_I (A : Option Addr) (c : Nat) (xs : List Int) (x : Int) (w : World) (hn : xs.length ≤ maxLen) (hL : Lies encI 1 w w.heap.size A xs) :
    Calls Try.prog 68 #[.slice A xs.length c, .int .i64 x] w (Ret (.bool (xs.any fun y => decide (y = x))) w) := by
  have hI := Inv.start w
  have HL := Lib.hid hL
  have hmx : xs.length ≤ 9223372036854775807 := by unfold maxLen at hn; omega
  clear hL hn
  go_enter Try.func68, Try.ntmps68
  go_wp2_with fail
  go_loopw [9] (fun v wr => ∃ k : Nat, v = .int .i64 k ∧ k ≤ xs.length ∧ (∀ j, j < k → xs[j]? ≠ some x) ∧ Inv w [] wr) (fun v _ => (xs.length - intOf v).toNat)
  case atStart => exact ⟨0, rfl, by omega, fun j hj => by omega, hI⟩
  case round =>
    clear hI
    obtain ⟨k, rfl, hk, hall, hI⟩ := hrel
    have HA := Lib.hid hall
    clear hall
    rcases Nat.lt_or_ge k xs.length with hlt | hge
    · obtain ⟨b, o, p, rfl, hb, hp, q0⟩ := (hI.lies HL.out).cellsI hlt
      have HP := Lib.hid hp
      clear hp
      cases hd : (x == p)
      · have hne : ¬ x = p := by simpa using hd
        have H := Lib.hid (show ∀ j, j < k + 1 → xs[j]? ≠ some x from fun j hj => by
          rcases Nat.lt_or_ge j k with h | h
          · exact HA.out j h
          · obtain rfl : j = k := by omega
            rw [HP.out]; exact fun h => hne (Option.some.inj h).symm)
        clear hne
        go_wp2_with fail
        go_roundw
        case rel => exact ⟨k + 1, by go_num, by omega, H.out, hI⟩
        case measure => simp [intOf]; omega
      · have H := Lib.hid (show (xs.any fun y => decide (y = x)) = true from (by
          have hx : x = p := by simpa using hd
          rw [List.any_eq_true]; exact ⟨p, List.mem_of_getElem? HP.out, decide_eq_true hx.symm⟩))
        go_wp2_with fail
        go_returns
        exact Ret.bool H.out.symm hI.below
    · have H := Lib.hid (show (xs.any fun y => decide (y = x)) = false from by
        rw [Bool.eq_false_iff, ne_eq, List.any_eq_true]
        rintro ⟨y, hy, hx⟩
        obtain ⟨j, hj⟩ := List.getElem?_of_mem hy
        rw [of_decide_eq_true hx] at hj
        exact HA.out j (by have := (List.getElem?_eq_some_iff.1 hj).1; omega) hj)
      go_wp2_with fail
      go_returns
      exact Ret.bool H.out.symm hI.below
set_option maxHeartbeats 1000000 in
theorem r_Has_S (A : Option Addr) (c : Nat) (xs : List ByteArray) (x : ByteArray) (w : World) (hn : xs.length ≤ maxLen) (hL : Lies encS 1 w w.heap.size A xs) :
    Calls Try.prog 36 #[.slice A xs.length c, .string x] w (Ret (.bool (xs.any fun y => decide (y = x))) w) := by
  have hI := Inv.start w
  have HL := Lib.hid hL
  have hmx : xs.length ≤ 9223372036854775807 := by unfold maxLen at hn; omega
  clear hL hn
  go_enter Try.func36, Try.ntmps36
  go_wp2_with fail
  go_loopw [9] (fun v wr => ∃ k : Nat, v = .int .i64 k ∧ k ≤ xs.length ∧ (∀ j, j < k → xs[j]? ≠ some x) ∧ Inv w [] wr) (fun v _ => (xs.length - intOf v).toNat)
  case atStart => exact ⟨0, rfl, by omega, fun j hj => by omega, hI⟩
  case round =>
    clear hI
    obtain ⟨k, rfl, hk, hall, hI⟩ := hrel
    have HA := Lib.hid hall
    clear hall
    rcases Nat.lt_or_ge k xs.length with hlt | hge
    · obtain ⟨b, o, p, rfl, hb, hp, q0⟩ := (hI.lies HL.out).cellsS hlt
      have HP := Lib.hid hp
      clear hp
      cases hd : (x.toList == p.toList)
      · have hne : ¬ x = p := by rw [str_beq] at hd; exact of_decide_eq_false hd
        have H := Lib.hid (show ∀ j, j < k + 1 → xs[j]? ≠ some x from fun j hj => by
          rcases Nat.lt_or_ge j k with h | h
          · exact HA.out j h
          · obtain rfl : j = k := by omega
            rw [HP.out]; exact fun h => hne (Option.some.inj h).symm)
        clear hne
        go_wp2_with fail
        go_roundw
        case rel => exact ⟨k + 1, by go_num, by omega, H.out, hI⟩
        case measure => simp [intOf]; omega
      · have H := Lib.hid (show (xs.any fun y => decide (y = x)) = true from (by
          have hx : x = p := by rw [str_beq] at hd; exact of_decide_eq_true hd
          rw [List.any_eq_true]; exact ⟨p, List.mem_of_getElem? HP.out, decide_eq_true hx.symm⟩))
        go_wp2_with fail
        go_returns
        exact Ret.bool H.out.symm hI.below
    · have H := Lib.hid (show (xs.any fun y => decide (y = x)) = false from by
        rw [Bool.eq_false_iff, ne_eq, List.any_eq_true]
        rintro ⟨y, hy, hx⟩
        obtain ⟨j, hj⟩ := List.getElem?_of_mem hy
        rw [of_decide_eq_true hx] at hj
        exact HA.out j (by have := (List.getElem?_eq_some_iff.1 hj).1; omega) hj)
      go_wp2_with fail
      go_returns
      exact Ret.bool H.out.symm hI.below
section
variable {P : Program} {ops : Array Oper} {rest : List Oper} {o : Oper} {a : Act} {T : Nat → Prop} {w0 w : World} {rs : List Res} {K : Act → World → Prop} {Q : Exit → Act → World → Prop}
/-- a slice literal, its cells told by 'fill' -/
theorem wpI_sliceN (t e : TypeId) (n : Nat) (parts : Array (Nat × Operand)) (ho : o.op = .buildSlice t n parts) (hI : InvT T w0 rs w) (hu : P.underlying t = some (.slice e)) (us : Array Value) {z : Value} (hie : (P.info? e).map (fun i => (i.zero, i.size)) = some (some z, z.cells.size)) (hn : n * z.cells.size ≤ 1000) (hp : ¬ n * z.cells.size = 0)
    (hf : Instr.fill (fun i => some (i * z.cells.size, z.cells.size)) ((Array.range (n * z.cells.size)).map (z.cells[· % z.cells.size]!)) (parts.map fun (i, x) => (i, a.eval x)).toList = some us)
    (h : ∀ g w', InvT T w0 (rs ++ [.box g e us]) w' → Below w.heap.size w w' → K (a.put o.dst (.slice (some ⟨g, 0, none⟩) n n)) w') : o.wp P a w K Q := by
  cases hi : P.info? e with
  | none => simp [hi] at hie
  | some i =>
    simp only [hi, Option.map_some, Option.some.injEq, Prod.mk.injEq] at hie
    obtain ⟨hz, hsz⟩ := hie
    refine wp_buildSlice t e n parts ho us i z hu hi hz (by rw [hsz]; omega) (by rw [hsz]; exact hp) (by rw [hsz]; exact hf) (h _ _ (hI.alloc e us) ((Below.refl _ _).alloc (Nat.le_refl _) _))
end
theorem InvT.liesL {α : Type} {enc : α → List Value} {size : Nat} {T : Nat → Prop} {w0 w : World} {rs : List Res} (h : InvT T w0 rs w) {i g : Nat} {t : TypeId} {us : List Value} (hi : rs[i]? = some (.box g t us.toArray)) (xs : List α) (hx : us = xs.flatMap enc) (hl : ∀ x, (enc x).length = size) : Lies enc size w (g + 1) (some ⟨g, 0, none⟩) xs := fun _ => by
  refine ⟨g, 0, rfl, Nat.lt_succ_self _, fun k y hy j hj => ?_⟩
  rw [Nat.zero_add, h.cell hi, List.getElem?_toArray, hx]
  exact flat_at hl hy hj
end Go.Proofs.Ythdlfepakkihnaa
