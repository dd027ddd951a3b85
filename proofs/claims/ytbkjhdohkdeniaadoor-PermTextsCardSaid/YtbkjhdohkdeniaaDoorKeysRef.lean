/- The contracts of the references of package keys: they return the same plain functions. Conditions: the numbers of a key are numbers of 64 bits. -/
import Derived.Test.YtbkjhdohkdeniaaDoorKeysOps
namespace Go.Proofs.YtbkjhdohkdeniaaDoor
open Go.RowKit
set_option linter.unusedVariables false
set_option linter.unusedSimpArgs false
set_option maxRecDepth 100000

/-- what KeyOp says: 0 Move, 1 Narrow, else Drop -/
def keyOp (k : Key) (n which : Int) : Key × Int := if which = 0 then keyMove k n else if which = 1 then keyNarrow k n else keyDrop k n

theorem two_pow_mono {a b : Nat} (h : a ≤ b) : (2 : Int) ^ a ≤ 2 ^ b := by
  rcases Nat.lt_or_eq_of_le h with h | h
  · exact Int.le_of_lt (Int.pow_lt_pow_of_lt (by decide) h)
  · rw [h]; exact Int.le_refl _
/-- the sum of the first m bits that both have -/
def bitsTo (x y : Int) : Nat → Int
  | 0 => 0
  | m + 1 => bitsTo x y m + (if x / 2 ^ m % 2 = 1 ∧ y / 2 ^ m % 2 = 1 then 2 ^ m else 0)
theorem bitsTo_lo (x y : Int) (m : Nat) : 0 ≤ bitsTo x y m ∧ bitsTo x y m < 2 ^ m := by
  induction m with
  | zero => simp [bitsTo]
  | succ m ih =>
    have hp : (0 : Int) < 2 ^ m := Int.pow_pos (by decide)
    have e : (2 : Int) ^ (m + 1) = 2 * 2 ^ m := by rw [Int.pow_succ, Int.mul_comm]
    unfold bitsTo
    split <;> omega
theorem bitsTo_bit (x y : Int) (m : Nat) : ∀ j : Nat, bitsTo x y m / 2 ^ j % 2 = 1 ↔ (j < m ∧ x / 2 ^ j % 2 = 1 ∧ y / 2 ^ j % 2 = 1) := by
  induction m with
  | zero => intro j; simp [bitsTo]
  | succ m ih =>
    intro j
    have hb := bitsTo_lo x y m
    have hp : (0 : Int) < 2 ^ m := Int.pow_pos (by decide)
    have hpj : (0 : Int) < 2 ^ j := Int.pow_pos (by decide)
    unfold bitsTo
    split
    · rename_i hx
      rcases Nat.lt_trichotomy j m with h | h | h
      · have e : (2 : Int) ^ m = 2 ^ j * (2 * 2 ^ (m - j - 1)) := by
          rw [← Int.mul_assoc, ← Int.pow_succ, ← Int.pow_add, show j + 1 + (m - j - 1) = m by omega]
        rw [e, Int.add_mul_ediv_left _ _ (by omega), Int.add_mul_emod_self_left, ih]
        constructor
        · rintro ⟨_, h2⟩; exact ⟨by omega, h2⟩
        · rintro ⟨_, h2⟩; exact ⟨h, h2⟩
      · subst h
        have : (bitsTo x y j + 2 ^ j) / 2 ^ j = 1 := by
          have := Int.add_mul_ediv_left (bitsTo x y j) 1 (show (2 : Int) ^ j ≠ 0 by omega)
          rw [Int.mul_one] at this
          rw [this, Int.ediv_eq_zero_of_lt hb.1 hb.2]; rfl
        rw [this]
        simp [hx]
      · have hlt : bitsTo x y m + 2 ^ m < 2 ^ j := by
          have : (2 : Int) ^ (m + 1) ≤ 2 ^ j := two_pow_mono (by omega)
          have e : (2 : Int) ^ (m + 1) = 2 * 2 ^ m := by rw [Int.pow_succ, Int.mul_comm]
          omega
        rw [Int.ediv_eq_zero_of_lt (by omega) hlt]
        constructor
        · intro h0; omega
        · rintro ⟨h0, _⟩; omega
    · rename_i hx
      rw [Int.add_zero, ih]
      constructor
      · rintro ⟨h1, h2⟩; exact ⟨by omega, h2⟩
      · rintro ⟨h1, h2⟩
        rcases Nat.lt_or_ge j m with h | h
        · exact ⟨h, h2⟩
        · obtain rfl : j = m := by omega
          exact absurd h2 hx
theorem bitsTo_and (x y : Int) (h0 : 0 ≤ x) (h1 : x ≤ 127) : bitsTo x y 7 = bits .and .i64 x y := by
  have hb := bitsTo_lo x y 7
  have e : bits .and .i64 x y = wrap64 ((BitVec.ofInt 64 x &&& BitVec.ofInt 64 y).toNat : Int) := by
    unfold bits; exact IntWalk.i64_left _
  have hv : BitVec.ofInt 64 (bitsTo x y 7) = BitVec.ofInt 64 x &&& BitVec.ofInt 64 y := by
    refine BitVec.eq_of_getLsbD_eq fun j hj => ?_
    rw [BitVec.getLsbD_and, ofInt_bit _ _ hj, ofInt_bit _ _ hj, ofInt_bit _ _ hj, Bool.eq_iff_iff]
    simp only [Bool.and_eq_true, decide_eq_true_iff, bitsTo_bit]
    constructor
    · rintro ⟨_, h2⟩; exact h2
    · intro h2
      refine ⟨?_, h2⟩
      rcases Nat.lt_or_ge j 7 with h | h
      · exact h
      · have : x / 2 ^ j = 0 := Int.ediv_eq_zero_of_lt h0 (by
          have : (2 : Int) ^ 7 ≤ 2 ^ j := two_pow_mono h
          omega)
        rw [this] at h2; omega
  rw [e, ← hv]
  have h2 : (BitVec.ofInt 64 (bitsTo x y 7)).toNat = (bitsTo x y 7).toNat := by
    rw [BitVec.toNat_ofInt]
    congr 1
    rw [Int.emod_eq_of_lt hb.1]
    have := hb.2
    omega
  rw [h2]
  have := hb.1; have := hb.2
  unfold wrap64
  omega

theorem plainE_no {k : Key} (h : keyOk k = false) : plainE k = 1 := by simp [plainE, h]
theorem plainE_tag {k : Key} (h : keyOk k = true) (ht : 0 < k.tag) : plainE k = 11 := by
  have : k.tag ≠ 0 := by omega
  simp [plainE, h, this]
end Go.Proofs.YtbkjhdohkdeniaaDoor
