/- Bits of 64-bit numbers, in plain Lean, and the contracts of perm.Within and its reference. Conditions: none. -/
import Derived.Test.YtbkjhdohkdeniaaDoorNum
namespace Go.Proofs.YtbkjhdohkdeniaaDoor
open Go.RowKit
set_option linter.unusedVariables false
set_option linter.unusedSimpArgs false
set_option maxRecDepth 100000

theorem ofInt_bit (x : Int) (k : Nat) (hk : k < 64) : (BitVec.ofInt 64 x).getLsbD k = decide (x / 2 ^ k % 2 = 1) := by
  have e : (BitVec.ofInt 64 x).getLsbD k = (BitVec.ofInt 64 x).toNat.testBit k := rfl
  rw [e, Nat.testBit_eq_decide_div_mod_eq, BitVec.toNat_ofInt]
  have hp : (0 : Int) < 2 ^ k := Int.pow_pos (by decide)
  have h0 : (0 : Int) ≤ x % ((2 ^ 64 : Nat) : Int) := Int.emod_nonneg _ (by decide)
  have hx : x % ((2 ^ 64 : Nat) : Int) = ((x % ((2 ^ 64 : Nat) : Int)).toNat : Int) := (Int.toNat_of_nonneg h0).symm
  have h64 : ((2 ^ 64 : Nat) : Int) = 2 ^ k * (2 * 2 ^ (63 - k)) := by
    have : (2 : Int) ^ 64 = 2 ^ (k + (1 + (63 - k))) := by rw [show k + (1 + (63 - k)) = 64 by omega]
    rw [Int.natCast_pow, show ((2 : Nat) : Int) = 2 from rfl, this, Int.pow_add, Int.pow_add]
    rfl
  have hd : x / 2 ^ k = (x % ((2 ^ 64 : Nat) : Int)) / 2 ^ k + (2 * 2 ^ (63 - k)) * (x / ((2 ^ 64 : Nat) : Int)) := by
    have h := Int.mul_ediv_add_emod x ((2 ^ 64 : Nat) : Int)
    conv => lhs; rw [← h]
    generalize x % ((2 ^ 64 : Nat) : Int) = r
    generalize x / ((2 ^ 64 : Nat) : Int) = q
    rw [h64, Int.mul_assoc, Int.add_comm, Int.add_mul_ediv_left _ _ (by omega)]
  have hc : (((x % ((2 ^ 64 : Nat) : Int)).toNat / 2 ^ k % 2 : Nat) : Int) = x / 2 ^ k % 2 := by
    rw [Int.natCast_emod, Int.natCast_ediv, ← hx, Int.natCast_pow (2) k, hd, show ((2 : Nat) : Int) = 2 from rfl, Int.mul_assoc, Int.add_mul_emod_self_left]
  rw [decide_eq_decide]
  omega

theorem wrap64_zero (n : Nat) (h : n < 18446744073709551616) : wrap64 (n : Int) = 0 ↔ n = 0 := by unfold wrap64; omega

/-- has b all the bits of a? -/
def subB (a b : Int) : Bool := bits .andNot .i64 a b == 0
theorem subB_iff (a b : Int) : subB a b = true ↔ ∀ k : Nat, k < 64 → a / 2 ^ k % 2 = 1 → b / 2 ^ k % 2 = 1 := by
  have e : bits .andNot .i64 a b = wrap64 ((BitVec.ofInt 64 a &&& ~~~BitVec.ofInt 64 b).toNat : Int) := by
    unfold bits; exact IntWalk.i64_left _
  unfold subB
  rw [beq_iff_eq, e, wrap64_zero _ (by have := (BitVec.ofInt 64 a &&& ~~~BitVec.ofInt 64 b).isLt; omega)]
  constructor
  · intro h k hk ha
    have hz : (BitVec.ofInt 64 a &&& ~~~BitVec.ofInt 64 b) = 0 := BitVec.eq_of_toNat_eq h
    have hb := congrArg (fun v => v.getLsbD k) hz
    simp only [BitVec.getLsbD_and, BitVec.getLsbD_not, ofInt_bit _ _ hk, hk, decide_true, Bool.true_and, ha] at hb
    have hb' : (!decide (b / 2 ^ k % 2 = 1)) = false := by simpa using hb
    simpa using hb'
  · intro h
    have hz : (BitVec.ofInt 64 a &&& ~~~BitVec.ofInt 64 b) = 0 := by
      refine BitVec.eq_of_getLsbD_eq fun k hk => ?_
      simp only [BitVec.getLsbD_and, BitVec.getLsbD_not, ofInt_bit _ _ hk, hk, decide_true, Bool.true_and]
      by_cases ha : a / 2 ^ k % 2 = 1
      · simp [ha, h k hk ha]
      · simp [ha]
    rw [hz]; rfl

theorem and_one (x : Int) : bits .and .i64 x 1 = x % 2 := by
  have e : bits .and .i64 x 1 = wrap64 ((BitVec.ofInt 64 x &&& BitVec.ofInt 64 1).toNat : Int) := by
    unfold bits; exact IntWalk.i64_left _
  rw [e, BitVec.toNat_and, show (BitVec.ofInt 64 1).toNat = 1 from rfl, Nat.and_one_is_mod]
  have h0 := ofInt_bit x 0 (by omega)
  have e0 : (BitVec.ofInt 64 x).getLsbD 0 = (BitVec.ofInt 64 x).toNat.testBit 0 := rfl
  rw [e0, Nat.testBit_eq_decide_div_mod_eq, decide_eq_decide] at h0
  simp only [Nat.pow_zero, Nat.div_one, Int.pow_zero, Int.ediv_one] at h0
  unfold wrap64
  omega

end Go.Proofs.YtbkjhdohkdeniaaDoor
