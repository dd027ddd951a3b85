/- Bytes: numbers told as bytes, rows of bytes, strings of them. Conditions: none. -/
import Derived.Test.YtbkjhdohkdeniaaDoorInv
import Derived.Laws.BytesArg
import Derived.Lib.Strings
namespace Go.Proofs.YtbkjhdohkdeniaaDoor
open Go.RowKit
set_option linter.unusedVariables false
set_option linter.unusedSimpArgs false
set_option maxRecDepth 100000
def u8 (n : Int) : UInt8 := UInt8.ofNat (n % 256).toNat
theorem u8_int (n : Int) : ((u8 n).toNat : Int) = n % 256 := by
  unfold u8
  rw [UInt8.toNat_ofNat']
  omega
theorem u8_of (c : UInt8) : u8 (c.toNat : Int) = c := by
  have h := c.toNat_lt
  unfold u8
  have e : ((c.toNat : Int) % 256).toNat = c.toNat := by omega
  rw [e]; simp
theorem u8_inj {a b : UInt8} (h : (a.toNat : Int) = b.toNat) : a = b := UInt8.toNat_inj.1 (by omega)
def enc8 (b : UInt8) : List Value := [.int .u8 b.toNat]
theorem len_8 : ∀ b, (enc8 b).length = 1 := fun _ => rfl
def str (l : List UInt8) : ByteArray := ⟨l.toArray⟩
theorem str_list (l : List UInt8) : (str l).data.toList = l := by simp [str]
theorem str_of (s : ByteArray) : str s.data.toList = s := by obtain ⟨⟨l⟩⟩ := s; rfl
theorem str_size (l : List UInt8) : (str l).size = l.length := by rw [Lib.size_eq, str_list]
theorem str_app (k l : List UInt8) : str k ++ str l = str (k ++ l) := by
  apply WideShapes.bytes_inj
  simp [str]
/-- n in so many bytes, the highest first -/
def high (n : Int) : Nat → List UInt8
  | 0 => []
  | k + 1 => high (n / 256) k ++ [u8 n]
theorem high_len (n : Int) (k : Nat) : (high n k).length = k := by
  induction k generalizing n with
  | zero => rfl
  | succ k ih => rw [high, List.length_append, ih]; rfl
theorem high_at (n : Int) (k j : Nat) (hj : j < k) : (high n k)[j]? = some (u8 (n / 256 ^ (k - 1 - j))) := by
  induction k generalizing n with
  | zero => omega
  | succ k ih =>
    rw [high]
    rcases Nat.lt_or_ge j k with h | h
    · rw [List.getElem?_append_left (by rw [high_len]; exact h), ih _ h]
      congr 2
      rw [show k + 1 - 1 - j = (k - 1 - j) + 1 by omega, Int.pow_succ, Int.mul_comm, ← Int.ediv_ediv_of_nonneg (by decide)]
    · obtain rfl : j = k := by omega
      rw [List.getElem?_append_right (by rw [high_len]; exact Nat.le_refl _), high_len, Nat.sub_self]
      have : j + 1 - 1 - j = 0 := by omega
      rw [this]; simp
def sumB (l : List UInt8) : Int := (l.map fun c => (c.toNat : Int)).sum
theorem sumB_take {l : List UInt8} {k : Nat} {c : UInt8} (h : l[k]? = some c) : sumB (l.take (k + 1)) = sumB (l.take k) + c.toNat := by
  unfold sumB; rw [List.take_add_one, h]; simp
theorem sumB_bd (l : List UInt8) : 0 ≤ sumB l ∧ sumB l ≤ 255 * l.length := by
  induction l with
  | nil => simp [sumB]
  | cons c l ih =>
    have h := c.toNat_lt
    have e : sumB (c :: l) = c.toNat + sumB l := by simp [sumB]
    rw [e, List.length_cons]
    omega
end Go.Proofs.YtbkjhdohkdeniaaDoor
