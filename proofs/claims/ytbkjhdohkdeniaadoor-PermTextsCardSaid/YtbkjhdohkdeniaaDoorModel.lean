/- The plain data of the machine and what its checks say of them: no program in sight. Conditions: none. -/
import Derived.Test.YtbkjhdohkdeniaaDoorBits
namespace Go.Proofs.YtbkjhdohkdeniaaDoor
open Go.RowKit
set_option linter.unusedVariables false
set_option linter.unusedSimpArgs false
set_option maxRecDepth 100000

/-- a key: what it allows, where it is for, where it stands, by what it is closed -/
structure Key where
  (perm base len pos tag : Int)
theorem Key.ext_iff' {a b : Key} : (a.perm = b.perm ∧ a.base = b.base ∧ a.len = b.len ∧ a.pos = b.pos ∧ a.tag = b.tag) ↔ a = b := by
  constructor
  · rintro ⟨h1, h2, h3, h4, h5⟩
    cases a; cases b; simp_all
  · rintro rfl; exact ⟨rfl, rfl, rfl, rfl, rfl⟩
instance : DecidableEq Key := fun a b => decidable_of_iff (a.perm = b.perm ∧ a.base = b.base ∧ a.len = b.len ∧ a.pos = b.pos ∧ a.tag = b.tag) Key.ext_iff'
structure Val where
  is : Bool
  n : Int
  key : Key
theorem Val.ext_iff' {a b : Val} : (a.is = b.is ∧ a.n = b.n ∧ a.key = b.key) ↔ a = b := by
  constructor
  · rintro ⟨h1, h2, h3⟩
    cases a; cases b; simp_all
  · rintro rfl; exact ⟨rfl, rfl, rfl⟩
instance : DecidableEq Val := fun a b => decidable_of_iff (a.is = b.is ∧ a.n = b.n ∧ a.key = b.key) Val.ext_iff'

/-- an int of 64 bits -/
def i64 (n : Int) : Prop := -9223372036854775808 ≤ n ∧ n ≤ 9223372036854775807
structure Key.Wf (k : Key) : Prop where
  perm : i64 k.perm
  base : i64 k.base
  len : i64 k.len
  pos : i64 k.pos
  tag : i64 k.tag
structure Val.Wf (v : Val) : Prop where
  n : i64 v.n
  key : v.key.Wf
def Key.zero : Key := ⟨0, 0, 0, 0, 0⟩

def keyOk (k : Key) : Bool := inR k.base 0 400 && inR k.len 0 (400 - k.base) && inR k.perm 0 127 && inR k.pos 0 400 && inR k.tag 0 63
def keyE (k : Key) : Int := if keyOk k = true then 0 else 1
theorem keyOk_iff {k : Key} : keyOk k = true ↔ (0 ≤ k.base ∧ k.base ≤ 400) ∧ (0 ≤ k.len ∧ k.len ≤ 400 - k.base) ∧ (0 ≤ k.perm ∧ k.perm ≤ 127) ∧ (0 ≤ k.pos ∧ k.pos ≤ 400) ∧ (0 ≤ k.tag ∧ k.tag ≤ 63) := by
  simp only [keyOk, Bool.and_eq_true, inR_iff, and_assoc]
theorem keyE_ok {k : Key} (h : keyOk k = true) : keyE k = 0 := by simp [keyE, h]
theorem keyE_no {k : Key} (h : keyOk k = false) : keyE k = 1 := by simp [keyE, h]
theorem keyE_zero {k : Key} : (keyE k == 0) = keyOk k := by cases h : keyOk k <;> simp [keyE, h]

/-- is it one of its cells? -/
def cov (k : Key) (i : Int) : Bool := decide (k.base ≤ i) && decide (i - k.base < k.len)
theorem cov_iff {k : Key} {i : Int} : cov k i = true ↔ k.base ≤ i ∧ i - k.base < k.len := by simp [cov]


def plainE (k : Key) : Int := if keyOk k = true then (if (k.tag == 0) = true then 0 else 11) else 1
theorem plainE_zero {k : Key} : plainE k = 0 ↔ keyOk k = true ∧ k.tag = 0 := by
  unfold plainE
  cases h : keyOk k <;> by_cases ht : k.tag = 0 <;> simp [ht]
/-- a key and an error -/
def keyMove (k : Key) (n : Int) : Key × Int :=
  if plainE k = 0 then (if inR n (-k.pos) (400 - k.pos) = true then ({ k with pos := k.pos + n }, 0) else (Key.zero, 13)) else (Key.zero, plainE k)
def keyNarrow (k : Key) (n : Int) : Key × Int :=
  if plainE k = 0 then (if k.base ≤ k.pos ∧ inR n 0 (k.base + k.len - k.pos) = true then ({ k with base := k.pos, len := n }, 0) else (Key.zero, 13)) else (Key.zero, plainE k)
def keyDrop (k : Key) (p : Int) : Key × Int :=
  if plainE k = 0 then ({ k with perm := bits .and .i64 k.perm p }, 0) else (Key.zero, plainE k)
def hasP (p x : Int) : Bool := !(bits .and .i64 x p == 0)
def mayE (k : Key) (p : Int) : Int := if (k.tag == 0) = true then (if hasP p k.perm = true then (if cov k k.pos = true then 0 else 13) else 12) else 11
def bothE (k by_ : Key) : Int := if keyOk k = true then keyE by_ else 1
def keySeal (k by_ : Key) : Key × Int :=
  if bothE k by_ = 0 then (if plainE k = 0 then (if mayE by_ 32 = 0 then (if inR by_.pos 1 63 = true then ({ k with tag := by_.pos }, 0) else (Key.zero, 13)) else (Key.zero, mayE by_ 32)) else (Key.zero, plainE k)) else (Key.zero, bothE k by_)
def keyOpen (k by_ : Key) : Key × Int :=
  if bothE k by_ = 0 then (if k.tag = 0 then (Key.zero, 11) else (if mayE by_ 64 = 0 then (if k.tag = by_.pos then ({ k with tag := 0 }, 0) else (Key.zero, 11)) else (Key.zero, mayE by_ 64))) else (Key.zero, bothE k by_)
/-- is it no more than another one? -/
def under (a b : Key) : Bool := (decide (a.len ≤ 0) || (cov b a.base && cov b (a.base + a.len - 1))) && (subB a.perm b.perm && (a.tag == b.tag || b.tag == 0))

theorem and_pow (x : Int) (j : Nat) (hj : j < 63) : bits .and .i64 x (2 ^ j) = (x / 2 ^ j % 2) * 2 ^ j := by
  have e : bits .and .i64 x (2 ^ j) = wrap64 ((BitVec.ofInt 64 x &&& BitVec.ofInt 64 (2 ^ j)).toNat : Int) := by
    unfold bits; exact IntWalk.i64_left _
  have hp : (BitVec.ofInt 64 ((2 : Int) ^ j)).toNat = 2 ^ j := by
    have : ((2 : Int) ^ j) = ((2 ^ j : Nat) : Int) := by simp
    rw [this, BitVec.ofInt_natCast, BitVec.toNat_ofNat]
    exact Nat.mod_eq_of_lt (Nat.pow_lt_pow_of_lt (by decide) (by omega))
  rw [e, BitVec.toNat_and, hp, nat_bit]
  have h0 := ofInt_bit x j (by omega)
  have e0 : (BitVec.ofInt 64 x).getLsbD j = (BitVec.ofInt 64 x).toNat.testBit j := rfl
  rw [e0, Nat.testBit_eq_decide_div_mod_eq, decide_eq_decide] at h0
  have hb : 2 ^ j ≤ 2 ^ 62 := Nat.pow_le_pow_right (by decide) (by omega)
  have hx : x / 2 ^ j % 2 = 0 ∨ x / 2 ^ j % 2 = 1 := by omega
  have hn : (BitVec.ofInt 64 x).toNat / 2 ^ j % 2 = 0 ∨ (BitVec.ofInt 64 x).toNat / 2 ^ j % 2 = 1 := by omega
  rcases hn with hn | hn
  · have : x / 2 ^ j % 2 = 0 := by omega
    rw [hn, this]; simp; unfold wrap64; rfl
  · have h1 := h0.1 hn
    rw [hn, h1, Nat.one_mul, Int.one_mul]
    have : (((2 ^ j : Nat)) : Int) = (2 : Int) ^ j := by simp
    rw [← this]
    unfold wrap64
    omega
theorem hasP_pow (x : Int) (j : Nat) (hj : j < 63) : hasP (2 ^ j) x = decide (x / 2 ^ j % 2 = 1) := by
  unfold hasP
  rw [and_pow x j hj]
  have hp : (0 : Int) < 2 ^ j := Int.pow_pos (by decide)
  have hx : x / 2 ^ j % 2 = 0 ∨ x / 2 ^ j % 2 = 1 := by omega
  rcases hx with h | h
  · rw [h]; simp
  · rw [h]; simp; omega
theorem two_pow_div (j k : Nat) : (2 : Int) ^ j / 2 ^ k % 2 = 1 ↔ j = k := by
  rcases Nat.lt_trichotomy j k with h | h | h
  · have : (2 : Int) ^ j / 2 ^ k = 0 := Int.ediv_eq_zero_of_lt (Int.le_of_lt (Int.pow_pos (by decide))) (Int.pow_lt_pow_of_lt (by decide) h)
    rw [this]; omega
  · subst h
    rw [Int.ediv_self (by have : (0 : Int) < 2 ^ j := Int.pow_pos (by decide); omega)]; simp
  · have e : (2 : Int) ^ j = 2 ^ k * (2 * 2 ^ (j - k - 1)) := by
      rw [← Int.mul_assoc, ← Int.pow_succ, ← Int.pow_add, show k + 1 + (j - k - 1) = j by omega]
    rw [e, Int.mul_ediv_cancel_left _ (by have : (0 : Int) < 2 ^ k := Int.pow_pos (by decide); omega)]
    omega
theorem subB_pow (x : Int) (j : Nat) (hj : j < 63) : subB (2 ^ j) x = hasP (2 ^ j) x := by
  rw [hasP_pow x j hj, Bool.eq_iff_iff, subB_iff, decide_eq_true_iff]
  constructor
  · intro h; exact h j (by omega) ((two_pow_div j j).2 rfl)
  · intro h k hk h2
    rw [two_pow_div] at h2
    subst h2; exact h
theorem eqB {α : Type} {a b : α} (h : a = b) : b = a := h.symm
theorem Ret.key {p q : Key × Int} {w w' : World} (h : q = p) (hb : Below w.heap.size w w') :
    Ret (.tuple #[.agg #[.int .i64 p.1.perm, .int .i64 p.1.base, .int .i64 p.1.len, .int .i64 p.1.pos, .int .i64 p.1.tag], .int .i64 p.2]) w (.returned (.tuple #[.agg #[.int .i64 q.1.perm, .int .i64 q.1.base, .int .i64 q.1.len, .int .i64 q.1.pos, .int .i64 q.1.tag], .int .i64 q.2])) w' := by subst h; exact ⟨rfl, hb⟩
end Go.Proofs.YtbkjhdohkdeniaaDoor
