/- The contracts of package num and of its references: each returns a plain function of its numbers. Conditions: none. -/
import Derived.Test.YtbkjhdohkdeniaaDoorBase
namespace Go.Proofs.YtbkjhdohkdeniaaDoor
open Go.RowKit
set_option linter.unusedVariables false
set_option linter.unusedSimpArgs false
set_option maxRecDepth 100000

/-- a number within 32 bits -/
def wr (n : Int) : Int := (n + 2147483648) % 4294967296 - 2147483648
theorem wr_lo (n : Int) : -2147483648 ≤ wr n := by unfold wr; omega
theorem wr_hi (n : Int) : wr n ≤ 2147483647 := by unfold wr; omega
theorem wr_wr (n : Int) : wr (wr n) = wr n := by unfold wr; omega
theorem wr_eq {n : Int} (h : -2147483648 ≤ n) (h' : n ≤ 2147483647) : wr n = n := by unfold wr; omega
theorem wrap32_wr (n : Int) : wrap32 n = wr n := by unfold wrap32 wr; rfl
theorem wrap64_wr (n : Int) : wrap64 (wr n) = wr n := by
  have := wr_lo n; have := wr_hi n
  unfold wrap64; omega
theorem wr_wrap64 (n : Int) : wr (wrap64 n) = wr n := by unfold wr wrap64; omega
theorem wrap64_wrap32 (n : Int) : wrap64 (wrap32 n) = wr n := by rw [wrap32_wr, wrap64_wr]
theorem mul_bd (a b m : Int) (h1 : -m ≤ a) (h2 : a ≤ m) (h3 : -m ≤ b) (h4 : b ≤ m) : -(m * m) ≤ a * b ∧ a * b ≤ m * m := by
  have ha : a.natAbs ≤ m.toNat := by omega
  have hb : b.natAbs ≤ m.toNat := by omega
  have h := Nat.mul_le_mul ha hb
  have e : (a * b).natAbs = a.natAbs * b.natAbs := Int.natAbs_mul a b
  rw [← e] at h
  have hm : ((m.toNat : Nat) : Int) = m := by omega
  have hh : (((m.toNat * m.toNat : Nat)) : Int) = m * m := by rw [Int.natCast_mul, hm]
  generalize hx : a * b = x at *
  generalize hy : m * m = y at *
  omega

/-- does it lie between the two? -/
def inR (n low high : Int) : Bool := decide (low ≤ n) && decide (n ≤ high)
theorem inR_iff {n low high : Int} : inR n low high = true ↔ low ≤ n ∧ n ≤ high := by simp [inR]
theorem inR_not {n low high : Int} : inR n low high = false ↔ n < low ∨ high < n := by
  rw [Bool.eq_false_iff, ne_eq, inR_iff]; omega

def truthOf (b : Bool) : Int := if b then 1 else 0
/-- what Div gives: the quotient, and the error -/
def dvq (a b : Int) : Int := if wr b = 0 then 0 else wr (Int.tdiv (wr a) (wr b))
def dve (b : Int) : Int := if wr b = 0 then 14 else 0
def calc0 (which a b : Int) : Int := if (which == 0) = true then wr (wr a + wr b) else if (which == 1) = true then wr (wr a - wr b) else if (which == 2) = true then wr (wr a * wr b) else truthOf (decide (wr a < wr b))

theorem r_outside (n low high : Int) (w : World) :
    Calls Tryd.prog 20 #[.int .i64 n, .int .i64 low, .int .i64 high] w fun e w' => e = .returned (.bool (!(inR n low high))) ∧ w = w' := by
  go_enter Tryd.func20, Tryd.ntmps20
  go_wp2
  all_goals
    go_ret
    exact ⟨ebool (by rw [Bool.eq_iff_iff]; simp [inR] <;> omega), rfl⟩
theorem r_IsNumber (n : Int) (w : World) :
    Calls Tryd.prog 32 #[.int .i64 n] w fun e w' => e = .returned (.bool (inR n (-2147483648) 2147483647)) ∧ w = w' := by
  go_enter Tryd.func32, Tryd.ntmps32
  go_wp2_with (go_at_call 20; (with_reducible refine (r_outside _ _ _ _).mono ?_); rintro e w1 ⟨rfl, rfl⟩)
  all_goals
    go_ret
    exact ⟨ebool (by simp), rfl⟩
end Go.Proofs.YtbkjhdohkdeniaaDoor
