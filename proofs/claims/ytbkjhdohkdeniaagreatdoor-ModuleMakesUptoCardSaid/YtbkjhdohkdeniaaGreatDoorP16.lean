/- What the parts say: Names of a program, as plain data: letters and digits, a letter first, at most twelve. Conditions: none. -/
import Derived.Test.YtbkjhdohkdeniaaGreatDoorP01
import Derived.Lib.Index
set_option linter.unusedVariables false
set_option linter.unusedSimpArgs false
namespace Go.Proofs.YtbkjhdohkdeniaaGreatDoor
open Go.RowKit
set_option maxRecDepth 100000

def nameC (c : UInt8) : Bool := (decide (97 ≤ c.toNat) && decide (c.toNat ≤ 122)) || (decide (48 ≤ c.toNat) && decide (c.toNat ≤ 57))
def nameB (l : List UInt8) : Bool := decide (1 ≤ l.length) && decide (l.length ≤ 12) && (match l with | [] => false | c :: _ => decide (97 ≤ c.toNat) && decide (c.toNat ≤ 122)) && l.all nameC
def badR (r : Nat) : Bool := (decide (r < 97) || decide (122 < r)) && (decide (r < 48) || decide (57 < r))
theorem c_IsName1 (r : Nat) (hr : r ≤ 1114111) (w : World) : Calls Tryz.prog 101 #[.int .i32 r] w fun e w' => e = .returned (.bool (badR r)) ∧ w = w' := by
  rcases Nat.lt_or_ge r 48 with h | h
  · have H := Lib.hid (show badR r = true by simp [badR]; omega)
    go_enter Tryz.func101, Tryz.ntmps101
    go_wp2
    go_ret
    exact ⟨by simp [H.out] <;> omega, rfl⟩
  · rcases Nat.lt_or_ge 57 r with h2 | h2
    · rcases Nat.lt_or_ge r 97 with h3 | h3
      · have H := Lib.hid (show badR r = true by simp [badR]; omega)
        go_enter Tryz.func101, Tryz.ntmps101
        go_wp2
        go_ret
        exact ⟨by simp [H.out] <;> omega, rfl⟩
      · rcases Nat.lt_or_ge 122 r with h4 | h4
        · have H := Lib.hid (show badR r = true by simp [badR]; omega)
          go_enter Tryz.func101, Tryz.ntmps101
          go_wp2
          go_ret
          exact ⟨by simp [H.out] <;> omega, rfl⟩
        · have H := Lib.hid (show badR r = false by simp [badR]; omega)
          go_enter Tryz.func101, Tryz.ntmps101
          go_wp2
          go_ret
          exact ⟨by simp [H.out] <;> omega, rfl⟩
    · have H := Lib.hid (show badR r = false by simp [badR]; omega)
      go_enter Tryz.func101, Tryz.ntmps101
      go_wp2
      go_ret
      exact ⟨by simp [H.out] <;> omega, rfl⟩
end Go.Proofs.YtbkjhdohkdeniaaGreatDoor
