/- What the parts say: The contracts of link.Find and of its reference: each returns a plain function of an image. Conditions: none. -/
import Derived.Test.YtbkjhdohkdeniaaGreatDoorP03
import Derived.Test.YtbkjhdohkdeniaaGreatDoorP05
import Derived.Test.YtbkjhdohkdeniaaGreatDoorP09
set_option linter.unusedVariables false
set_option linter.unusedSimpArgs false
namespace Go.Proofs.YtbkjhdohkdeniaaGreatDoor
open Go.RowKit
set_option maxRecDepth 100000

theorem str_beq (a b : ByteArray) : (a.toList == b.toList) = decide (a = b) := by
  rw [ByteArray.toList_eq, ByteArray.toList_eq]
  by_cases h : a = b
  · subst h; simp
  · rw [decide_eq_false h, beq_eq_false_iff_ne]
    exact fun e => h (WideShapes.bytes_inj e)
@[go_sem] theorem Entry.eta (k : Entry) : Entry.mk k.name k.code k.data = k := rfl
theorem Entry_eq {x0 : ByteArray} {x1 : Key} {x2 : Key} {y0 : ByteArray} {y1 : Key} {y2 : Key} : (Entry.mk x0 x1 x2 = Entry.mk y0 y1 y2) ↔ (x0 = y0 ∧ x1 = y1 ∧ x2 = y2) := ⟨fun h => Entry.ext_iff'.2 h, fun h => Entry.ext_iff'.1 h⟩
theorem eqf_Entry (d : Nat) (a0 : ByteArray) (a1 : Int) (a2 : Int) (a3 : Int) (a4 : Int) (a5 : Int) (a6 : Int) (a7 : Int) (a8 : Int) (a9 : Int) (a10 : Int) (b0 : ByteArray) (b1 : Int) (b2 : Int) (b3 : Int) (b4 : Int) (b5 : Int) (b6 : Int) (b7 : Int) (b8 : Int) (b9 : Int) (b10 : Int) (w : World) : (Op.equalIn (d + 4) 146 (.agg #[.string a0, .int .i64 a1, .int .i64 a2, .int .i64 a3, .int .i64 a4, .int .i64 a5, .int .i64 a6, .int .i64 a7, .int .i64 a8, .int .i64 a9, .int .i64 a10]) (.agg #[.string b0, .int .i64 b1, .int .i64 b2, .int .i64 b3, .int .i64 b4, .int .i64 b5, .int .i64 b6, .int .i64 b7, .int .i64 b8, .int .i64 b9, .int .i64 b10])).run Tryz.prog w = .ok (decide ((Entry.mk a0 (Key.mk a1 a2 a3 a4 a5) (Key.mk a6 a7 a8 a9 a10)) = (Entry.mk b0 (Key.mk b1 b2 b3 b4 b5) (Key.mk b6 b7 b8 b9 b10)))) w := by
  rw [run_equalIn_struct _ _ _ _ _ rfl (by kernel_rfl)]
  simp [go_sem, Entry_eq, key_eq, str_beq]
  repeat' split
  all_goals simp_all
@[go_sem high] theorem eql_Entry (a0 : ByteArray) (a1 : Int) (a2 : Int) (a3 : Int) (a4 : Int) (a5 : Int) (a6 : Int) (a7 : Int) (a8 : Int) (a9 : Int) (a10 : Int) (b0 : ByteArray) (b1 : Int) (b2 : Int) (b3 : Int) (b4 : Int) (b5 : Int) (b6 : Int) (b7 : Int) (b8 : Int) (b9 : Int) (b10 : Int) (w : World) : (binOp .eql 146 (.agg #[.string a0, .int .i64 a1, .int .i64 a2, .int .i64 a3, .int .i64 a4, .int .i64 a5, .int .i64 a6, .int .i64 a7, .int .i64 a8, .int .i64 a9, .int .i64 a10]) (.agg #[.string b0, .int .i64 b1, .int .i64 b2, .int .i64 b3, .int .i64 b4, .int .i64 b5, .int .i64 b6, .int .i64 b7, .int .i64 b8, .int .i64 b9, .int .i64 b10])).run Tryz.prog w = .ok (.bool (decide ((Entry.mk a0 (Key.mk a1 a2 a3 a4 a5) (Key.mk a6 a7 a8 a9 a10)) = (Entry.mk b0 (Key.mk b1 b2 b3 b4 b5) (Key.mk b6 b7 b8 b9 b10))))) w := by
  rw [run_eql_struct, eqf_Entry 9996]
  rfl
@[go_sem high] theorem neq_Entry (a0 : ByteArray) (a1 : Int) (a2 : Int) (a3 : Int) (a4 : Int) (a5 : Int) (a6 : Int) (a7 : Int) (a8 : Int) (a9 : Int) (a10 : Int) (b0 : ByteArray) (b1 : Int) (b2 : Int) (b3 : Int) (b4 : Int) (b5 : Int) (b6 : Int) (b7 : Int) (b8 : Int) (b9 : Int) (b10 : Int) (w : World) : (binOp .neq 146 (.agg #[.string a0, .int .i64 a1, .int .i64 a2, .int .i64 a3, .int .i64 a4, .int .i64 a5, .int .i64 a6, .int .i64 a7, .int .i64 a8, .int .i64 a9, .int .i64 a10]) (.agg #[.string b0, .int .i64 b1, .int .i64 b2, .int .i64 b3, .int .i64 b4, .int .i64 b5, .int .i64 b6, .int .i64 b7, .int .i64 b8, .int .i64 b9, .int .i64 b10])).run Tryz.prog w = .ok (.bool (!(decide ((Entry.mk a0 (Key.mk a1 a2 a3 a4 a5) (Key.mk a6 a7 a8 a9 a10)) = (Entry.mk b0 (Key.mk b1 b2 b3 b4 b5) (Key.mk b6 b7 b8 b9 b10)))))) w := by
  rw [run_neq_struct, eqf_Entry 9996]
  rfl
def Entry.zero : Entry := ⟨⟨#[]⟩, Key.zero, Key.zero⟩
section
variable {α : Type} {p : α → Bool} {l : List α}
end

end Go.Proofs.YtbkjhdohkdeniaaGreatDoor
