/- What the parts say: '==' and '!=' on keys, values and pieces: as the plain data are. Conditions: none. -/
import Derived.Test.YtbkjhdohkdeniaaGreatDoorP01
import Derived.Laws.StructEq
set_option linter.unusedVariables false
set_option linter.unusedSimpArgs false
namespace Go.Proofs.YtbkjhdohkdeniaaGreatDoor
open Go.RowKit
set_option maxRecDepth 100000

@[go_sem] theorem Key.eta (k : Key) : Key.mk k.perm k.base k.len k.pos k.tag = k := rfl
@[go_sem] theorem Val.eta (v : Val) : Val.mk v.is v.n v.key = v := rfl
theorem key_eq {a1 a2 a3 a4 a5 b1 b2 b3 b4 b5 : Int} : (Key.mk a1 a2 a3 a4 a5 = Key.mk b1 b2 b3 b4 b5) ↔ (a1 = b1 ∧ a2 = b2 ∧ a3 = b3 ∧ a4 = b4 ∧ a5 = b5) :=
  ⟨fun h => Key.ext_iff'.2 h, fun h => Key.ext_iff'.1 h⟩

theorem val_eq {ai bi : Bool} {an bn : Int} {a b : Key} : (Val.mk ai an a = Val.mk bi bn b) ↔ (ai = bi ∧ an = bn ∧ a = b) :=
  ⟨fun h => Val.ext_iff'.2 h, fun h => Val.ext_iff'.1 h⟩
theorem eqf_key (d : Nat) (a1 : Int) (a2 : Int) (a3 : Int) (a4 : Int) (a5 : Int) (b1 : Int) (b2 : Int) (b3 : Int) (b4 : Int) (b5 : Int) (w : World) : (Op.equalIn (d + 4) 75 (.agg #[.int .i64 a1, .int .i64 a2, .int .i64 a3, .int .i64 a4, .int .i64 a5]) (.agg #[.int .i64 b1, .int .i64 b2, .int .i64 b3, .int .i64 b4, .int .i64 b5])).run Tryz.prog w = .ok (decide (Key.mk a1 a2 a3 a4 a5 = Key.mk b1 b2 b3 b4 b5)) w := by
  rw [run_equalIn_struct _ _ _ _ _ rfl (by kernel_rfl)]
  simp [go_sem, key_eq]
  repeat' split
  all_goals simp_all
@[go_sem high] theorem eql_key (a1 : Int) (a2 : Int) (a3 : Int) (a4 : Int) (a5 : Int) (b1 : Int) (b2 : Int) (b3 : Int) (b4 : Int) (b5 : Int) (w : World) : (binOp .eql 75 (.agg #[.int .i64 a1, .int .i64 a2, .int .i64 a3, .int .i64 a4, .int .i64 a5]) (.agg #[.int .i64 b1, .int .i64 b2, .int .i64 b3, .int .i64 b4, .int .i64 b5])).run Tryz.prog w = .ok (.bool (decide (Key.mk a1 a2 a3 a4 a5 = Key.mk b1 b2 b3 b4 b5))) w := by
  rw [run_eql_struct, eqf_key 9996]
  rfl
@[go_sem high] theorem neq_key (a1 : Int) (a2 : Int) (a3 : Int) (a4 : Int) (a5 : Int) (b1 : Int) (b2 : Int) (b3 : Int) (b4 : Int) (b5 : Int) (w : World) : (binOp .neq 75 (.agg #[.int .i64 a1, .int .i64 a2, .int .i64 a3, .int .i64 a4, .int .i64 a5]) (.agg #[.int .i64 b1, .int .i64 b2, .int .i64 b3, .int .i64 b4, .int .i64 b5])).run Tryz.prog w = .ok (.bool (!(decide (Key.mk a1 a2 a3 a4 a5 = Key.mk b1 b2 b3 b4 b5)))) w := by
  rw [run_neq_struct, eqf_key 9996]
  rfl
theorem eqf_val (d : Nat) (ai : Bool) (an : Int) (a1 : Int) (a2 : Int) (a3 : Int) (a4 : Int) (a5 : Int) (bi : Bool) (bn : Int) (b1 : Int) (b2 : Int) (b3 : Int) (b4 : Int) (b5 : Int) (w : World) : (Op.equalIn (d + 4) 77 (.agg #[.bool ai, .int .i64 an, .int .i64 a1, .int .i64 a2, .int .i64 a3, .int .i64 a4, .int .i64 a5]) (.agg #[.bool bi, .int .i64 bn, .int .i64 b1, .int .i64 b2, .int .i64 b3, .int .i64 b4, .int .i64 b5])).run Tryz.prog w = .ok (decide (Val.mk ai an (Key.mk a1 a2 a3 a4 a5) = Val.mk bi bn (Key.mk b1 b2 b3 b4 b5))) w := by
  rw [run_equalIn_struct _ _ _ _ _ rfl (by kernel_rfl)]
  simp [go_sem, val_eq]
  repeat' split
  all_goals simp_all
@[go_sem high] theorem eql_val (ai : Bool) (an : Int) (a1 : Int) (a2 : Int) (a3 : Int) (a4 : Int) (a5 : Int) (bi : Bool) (bn : Int) (b1 : Int) (b2 : Int) (b3 : Int) (b4 : Int) (b5 : Int) (w : World) : (binOp .eql 77 (.agg #[.bool ai, .int .i64 an, .int .i64 a1, .int .i64 a2, .int .i64 a3, .int .i64 a4, .int .i64 a5]) (.agg #[.bool bi, .int .i64 bn, .int .i64 b1, .int .i64 b2, .int .i64 b3, .int .i64 b4, .int .i64 b5])).run Tryz.prog w = .ok (.bool (decide (Val.mk ai an (Key.mk a1 a2 a3 a4 a5) = Val.mk bi bn (Key.mk b1 b2 b3 b4 b5)))) w := by
  rw [run_eql_struct, eqf_val 9996]
  rfl
@[go_sem high] theorem neq_val (ai : Bool) (an : Int) (a1 : Int) (a2 : Int) (a3 : Int) (a4 : Int) (a5 : Int) (bi : Bool) (bn : Int) (b1 : Int) (b2 : Int) (b3 : Int) (b4 : Int) (b5 : Int) (w : World) : (binOp .neq 77 (.agg #[.bool ai, .int .i64 an, .int .i64 a1, .int .i64 a2, .int .i64 a3, .int .i64 a4, .int .i64 a5]) (.agg #[.bool bi, .int .i64 bn, .int .i64 b1, .int .i64 b2, .int .i64 b3, .int .i64 b4, .int .i64 b5])).run Tryz.prog w = .ok (.bool (!(decide (Val.mk ai an (Key.mk a1 a2 a3 a4 a5) = Val.mk bi bn (Key.mk b1 b2 b3 b4 b5))))) w := by
  rw [run_neq_struct, eqf_val 9996]
  rfl
end Go.Proofs.YtbkjhdohkdeniaaGreatDoor
