/- Bytes as a number: cell.get and the reference. Conditions: none. -/
import Derived.Test.YtmalaomcolgfcaaPackR
namespace Go.Proofs.Ytmalaomcolgfcaa
open Go.RowKit
set_option linter.unusedVariables false
set_option linter.unusedSimpArgs false
set_option maxRecDepth 100000
/-- bytes as a number, the highest first -/
def deepB (l : List UInt8) : Int := l.foldl (fun n c => 256 * n + (c.toNat : Int)) 0
theorem deepB_take {l : List UInt8} {k : Nat} {c : UInt8} (h : l[k]? = some c) : deepB (l.take (k + 1)) = 256 * deepB (l.take k) + c.toNat := by
  unfold deepB; rw [List.take_add_one, h]; simp
theorem deepB_bd (l : List UInt8) : 0 ≤ deepB l ∧ deepB l < 256 ^ l.length := by
  suffices h : ∀ k, k ≤ l.length → 0 ≤ deepB (l.take k) ∧ deepB (l.take k) < 256 ^ k by simpa using h l.length (Nat.le_refl _)
  intro k
  induction k with
  | zero => intro _; simp [deepB]
  | succ k ih =>
    intro hk
    have := ih (by omega)
    obtain ⟨c, hc⟩ : ∃ c, l[k]? = some c := ⟨_, List.getElem?_eq_getElem (by omega)⟩
    have h := c.toNat_lt
    rw [deepB_take hc, Int.pow_succ]
    omega
theorem r_deep (l : List UInt8) (hl : l.length ≤ 4) (w : World) : Calls Try.prog 72 #[.string (str l)] w (Ret (.int .i64 (deepB l)) w) := by
  have hs := str_size l
  go_enter Try.func72, Try.ntmps72
  go_wp2_with fail
  go_loop [3, 7] (fun v i => ∃ k : Nat, k ≤ l.length ∧ i = .int .i64 k ∧ v = .int .i64 (deepB (l.take k))) (fun _ i => l.length - (intOf i).toNat)
  case atStart => exact ⟨0, by omega, rfl, rfl⟩
  case round =>
    obtain ⟨k, hk, rfl, rfl⟩ := hrel
    rcases Nat.lt_or_ge k l.length with hlt | hge
    · obtain ⟨c, hc⟩ : ∃ c, l[k]? = some c := ⟨_, List.getElem?_eq_getElem hlt⟩
      have hsz : k < (str l).size := by rw [hs]; exact hlt
      have hat := str_get hc hsz
      obtain ⟨b1, b2⟩ := deepB_bd (l.take k)
      rw [List.length_take, Nat.min_eq_left hk] at b2
      have b3 : deepB (l.take k) < 16777216 := by
        have p : (256 : Int) ^ k ≤ 16777216 := by
          rcases (by omega : k = 0 ∨ k = 1 ∨ k = 2 ∨ k = 3) with h | h | h | h <;> rw [h] <;> decide
        omega
      have hc8 := c.toNat_lt
      obtain ⟨d, hd⟩ : ∃ d, d = deepB (l.take k) := ⟨_, rfl⟩
      rw [← hd] at b1 b3 ⊢
      clear b2
      go_wp2_with fail
      go_round
      case rel => exact ⟨k + 1, by omega, by go_num, by rw [deepB_take hc, ← hd]⟩
      case measure => simp [intOf]; omega
    · obtain rfl : k = l.length := by omega
      rw [List.take_length]
      go_wp2_with fail
      go_returns
      exact ⟨rfl, Below.refl _ _⟩
theorem or_add8 (x y : Int) (j : Nat) (hj : j < 63) (hx : 0 ≤ x) (hxm : x % 2 ^ j = 0) (hy : 0 ≤ y) (hyl : y < 2 ^ j) (hs : x + y < 9223372036854775808) : bits .or .i64 x y = x + y := by
  have e : bits .or .i64 x y = wrap64 ((BitVec.ofInt 64 x ||| BitVec.ofInt 64 y).toNat : Int) := by
    unfold bits; exact IntWalk.i64_left _
  obtain ⟨a, rfl⟩ := Int.eq_ofNat_of_zero_le hx
  obtain ⟨b, rfl⟩ := Int.eq_ofNat_of_zero_le hy
  have hb : b < 2 ^ j := by exact_mod_cast hyl
  have ha : a % 2 ^ j = 0 := by exact_mod_cast hxm
  have h1 : (BitVec.ofInt 64 (a : Int)).toNat = a := by simp [BitVec.toNat_ofInt]; omega
  have h2 : (BitVec.ofInt 64 (b : Int)).toNat = b := by simp [BitVec.toNat_ofInt]; omega
  obtain ⟨c, hc⟩ := Nat.dvd_of_mod_eq_zero ha
  have h3 : a ||| b = a + b := by rw [hc, Nat.two_pow_add_eq_or_of_lt hb]
  rw [e, BitVec.toNat_or, h1, h2, h3]
  unfold wrap64
  omega
theorem c_get (l : List UInt8) (hl : l.length ≤ 4) (w : World) : Calls Try.prog 71 #[.string (str l)] w (Ret (.int .i64 (deepB l)) w) := by
  have hs := str_size l
  go_enter Try.func71, Try.ntmps71
  go_wp2_with fail
  go_loop [3, 7] (fun v i => ∃ k : Nat, k ≤ l.length ∧ i = .int .i64 k ∧ v = .int .i64 (deepB (l.take k))) (fun _ i => l.length - (intOf i).toNat)
  case atStart => exact ⟨0, by omega, rfl, rfl⟩
  case round =>
    obtain ⟨k, hk, rfl, rfl⟩ := hrel
    rcases Nat.lt_or_ge k l.length with hlt | hge
    · obtain ⟨c, hc⟩ : ∃ c, l[k]? = some c := ⟨_, List.getElem?_eq_getElem hlt⟩
      have hsz : k < (str l).size := by rw [hs]; exact hlt
      have hat := str_get hc hsz
      obtain ⟨b1, b2⟩ := deepB_bd (l.take k)
      rw [List.length_take, Nat.min_eq_left hk] at b2
      have b3 : deepB (l.take k) < 16777216 := by
        have p : (256 : Int) ^ k ≤ 16777216 := by
          rcases (by omega : k = 0 ∨ k = 1 ∨ k = 2 ∨ k = 3) with h | h | h | h <;> rw [h] <;> decide
        omega
      have hc8 := c.toNat_lt
      obtain ⟨d, hd⟩ : ∃ d, d = deepB (l.take k) := ⟨_, rfl⟩
      rw [← hd] at b1 b3 ⊢
      clear b2
      go_wp2_with fail
      go_round
      case rel => exact ⟨k + 1, by omega, by go_num, by rw [deepB_take hc, ← hd, or_add8 (d * 256) c.toNat 8 (by decide) (by omega) (by show d * 256 % 256 = 0; omega) (by omega) (by show (c.toNat : Int) < 256; omega) (by omega), Int.mul_comm d 256]⟩
      case measure => simp [intOf]; omega
    · obtain rfl : k = l.length := by omega
      rw [List.take_length]
      go_wp2_with fail
      go_returns
      exact ⟨rfl, Below.refl _ _⟩
end Go.Proofs.Ytmalaomcolgfcaa
