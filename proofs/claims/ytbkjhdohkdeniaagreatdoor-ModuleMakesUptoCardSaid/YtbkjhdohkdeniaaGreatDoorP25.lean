/- What the parts say: The contract of prog.Text: the text of a program, as plain data tells it. Conditions: Go's tables hold what they were laid with. -/
import Derived.Test.YtbkjhdohkdeniaaGreatDoorP23
import Derived.Test.YtbkjhdohkdeniaaGreatDoorP17
set_option linter.unusedVariables false
set_option linter.unusedSimpArgs false
namespace Go.Proofs.YtbkjhdohkdeniaaGreatDoor
open Go.RowKit
set_option maxRecDepth 100000
theorem c_isNumber (n : Int) (w : World) : Calls Tryz.prog 148 #[.int .i64 n] w fun e w' => e = .returned (.bool (isNum n)) ∧ w = w' := by
  go_enter Tryz.func148, Tryz.ntmps148
  go_wp2
  all_goals
    go_ret
    exact ⟨ebool (by rw [Bool.eq_iff_iff]; simp [isNum, inR] <;> omega), rfl⟩
end Go.Proofs.YtbkjhdohkdeniaaGreatDoor
