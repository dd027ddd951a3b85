/- The contracts of Long and of its reference: each returns a plain function of its values. Conditions: the number is one of 64 bits. -/
import Derived.Test.YtmalaomcolgfcaaShortRef
namespace Go.Proofs.Ytmalaomcolgfcaa
open Go.RowKit
set_option linter.unusedVariables false
set_option linter.unusedSimpArgs false

/-- '&' with a power of two less one is the rest -/
theorem and_mask (x : Int) (j : Nat) (hj : j < 63) (hx : 0 ≤ x) (hs : x < 9223372036854775808) : bits .and .i64 x (2 ^ j - 1) = x % 2 ^ j := by
  have e : bits .and .i64 x (2 ^ j - 1) = wrap64 ((BitVec.ofInt 64 x &&& BitVec.ofInt 64 (2 ^ j - 1)).toNat : Int) := by
    unfold bits; exact IntWalk.i64_left _
  obtain ⟨a, rfl⟩ := Int.eq_ofNat_of_zero_le hx
  have hp : (1 : Nat) ≤ 2 ^ j := Nat.one_le_two_pow
  have hb : 2 ^ j ≤ 2 ^ 62 := Nat.pow_le_pow_right (by decide) (by omega)
  have hm : ((2 : Int) ^ j - 1) = ((2 ^ j - 1 : Nat) : Int) := by
    rw [Int.ofNat_sub hp]; simp
  have h1 : (BitVec.ofInt 64 (a : Int)).toNat = a := by simp; omega
  have h2 : (BitVec.ofInt 64 ((2 : Int) ^ j - 1)).toNat = 2 ^ j - 1 := by
    rw [hm, BitVec.ofInt_natCast, BitVec.toNat_ofNat]
    exact Nat.mod_eq_of_lt (by omega)
  have h4 : a % 2 ^ j ≤ a := Nat.mod_le _ _
  rw [e, BitVec.toNat_and, h1, h2, Nat.and_two_pow_sub_one_eq_mod, wr64 (by omega)]
  simp
/-- what Long returns -/
def longB (s : Int) : Int := s / 16 % 65536 * 2 ^ (s / 1048576).toNat
def longN (s : Int) : Int := s % 16 * 2 ^ (s / 1048576).toNat
def longF (s : Int) : Int × Int × Int := if s < 0 ∨ 16 < s / 1048576 then (0, 0, 5) else (if shortF (longB s) (longN s) = (s, 0) then (longB s, longN s, 0) else (0, 0, 5))
theorem mul_in {x p : Int} (hx : 0 ≤ x) (hx2 : x ≤ 65535) (hp : 1 ≤ p) (hp2 : p ≤ 65536) : IntKind.i64.wrap (x * p) = x * p := by
  have h1 : x * p ≤ 65535 * 65536 := Int.mul_le_mul hx2 hp2 (by omega) (by decide)
  have h2 : 0 ≤ x * p := Int.mul_nonneg hx (by omega)
  exact IntWalk.i64_in _ (by omega)
theorem e16 : (2 : Int) ^ 16 = 65536 := by rw [show (16 : Nat) = 8 + 8 from rfl, Int.pow_add]; decide
theorem longB_val {s : Int} (h1 : 0 ≤ s) (h2 : s / 1048576 ≤ 16) : IntKind.i64.wrap (bits .and .i64 (s / 16) 65535 * 2 ^ (s / 1048576).toNat) = longB s := by
  have h := and_mask (s / 16) 16 (by decide) (by omega) (by omega)
  rw [e16, show (65536 : Int) - 1 = 65535 from rfl] at h
  rw [h]
  exact mul_in (by omega) (by omega) (pow_ge _) (pow_le16 (by omega))
theorem longN_val {s : Int} (h1 : 0 ≤ s) (h2 : s / 1048576 ≤ 16) : IntKind.i64.wrap (bits .and .i64 s 15 * 2 ^ (s / 1048576).toNat) = longN s := by
  have h := and_mask s 4 (by decide) (by omega) (by omega)
  rw [show (2 : Int) ^ 4 - 1 = 15 from rfl, show (2 : Int) ^ 4 = 16 from rfl] at h
  rw [h]
  exact mul_in (by omega) (by omega) (pow_ge _) (pow_le16 (by omega))
theorem c_round_Long (s : Int) (hs : -9223372036854775808 ≤ s ∧ s ≤ 9223372036854775807) (w : World) :
    Calls Try.prog 32 #[.int .i64 s] w (Ret (.tuple #[.int .i64 (longF s).1, .int .i64 (longF s).2.1, .int .i64 (longF s).2.2]) w) := by
  obtain ⟨hs1, hs2⟩ := hs
  rcases Int.lt_or_le s 0 with h1 | h1
  · have H := Lib.hid (show longF s = (0, 0, 5) by simp [longF, h1])
    go_enter Try.func32, Try.ntmps32
    go_wp2_with fail
    go_returns
    exact Ret.mk (by rw [H.out]; rfl) (by (repeat' (first | (with_reducible exact Below.refl _ _) | (with_reducible assumption) | (with_reducible refine Below.alloc ?_ ?_ _) | (with_reducible refine Below.drew ?_) | (with_reducible refine Below.setCell ?_ ?_ _) | (refine Below.trans ?_ (Below.mono (by with_reducible assumption) ?_)) | go_size)))
  rcases Int.lt_or_le 16 (s / 1048576) with h2 | h2
  · have H := Lib.hid (show longF s = (0, 0, 5) by simp [longF, h2])
    go_enter Try.func32, Try.ntmps32
    go_wp2_with fail
    go_returns
    exact Ret.mk (by rw [H.out]; rfl) (by (repeat' (first | (with_reducible exact Below.refl _ _) | (with_reducible assumption) | (with_reducible refine Below.alloc ?_ ?_ _) | (with_reducible refine Below.drew ?_) | (with_reducible refine Below.setCell ?_ ?_ _) | (refine Below.trans ?_ (Below.mono (by with_reducible assumption) ?_)) | go_size)))
  · go_enter Try.func32, Try.ntmps32
    go_wp2_with fail
    (refine wp_region_kept (w0 := w) (bs := []) (by kernel_rfl) (by kernel_rfl) (Kept.mk0 (by (repeat' (first | (with_reducible exact Below.refl _ _) | (with_reducible assumption) | (with_reducible refine Below.alloc ?_ ?_ _) | (with_reducible refine Below.drew ?_) | (with_reducible refine Below.setCell ?_ ?_ _) | (refine Below.trans ?_ (Below.mono (by with_reducible assumption) ?_)) | go_size)))) ?_; (repeat (first | go_big_quiet_skip | (go_big_quiet_want; first | (refine BigFrame.quiet_move _ rfl ?_; (simp only [Act.put, Act.eval, Array.getD_eq_getD_getElem?, List.getElem?_toArray, List.getElem?_cons_zero, List.getElem?_cons_succ, Option.getD_some, List.setIfInBounds_toArray, List.set_cons_zero, List.set_cons_succ]); go_big_quiet_on) | (refine BigFrame.quiet_assign _ rfl ?_; (simp only [Act.put, Act.eval, Array.getD_eq_getD_getElem?, List.getElem?_toArray, List.getElem?_cons_zero, List.getElem?_cons_succ, Option.getD_some, List.setIfInBounds_toArray, List.set_cons_zero, List.set_cons_succ]); go_big_quiet_on) | (apply quiet_call; (focus (intro W; go_simp; constructor <;> with_reducible rfl)); (focus (intro W hW; first | fail)); (simp only [Act.put, Act.eval, Array.getD_eq_getD_getElem?, List.getElem?_toArray, List.getElem?_cons_zero, List.getElem?_cons_succ, Option.getD_some, List.setIfInBounds_toArray, List.set_cons_zero, List.set_cons_succ]); go_big_quiet_on) | (apply quiet_run; (focus (intro W hW; obtain ⟨hB, hS, hC, hF⟩ := hW; clear hC hF; (try simp only [List.length_cons, List.length_nil] at hS); go_simp; first | done | with_reducible rfl)); (simp only [Act.put, Act.eval, Array.getD_eq_getD_getElem?, List.getElem?_toArray, List.getElem?_cons_zero, List.getElem?_cons_succ, Option.getD_some, List.setIfInBounds_toArray, List.set_cons_zero, List.set_cons_succ]); go_big_quiet_on)))); refine wpQuiet_nil ?_; intro w1 hW; obtain ⟨hB, hS, hC, hF⟩ := hW; clear hC hF; (try simp only [List.length_cons, List.length_nil] at hS))
    have HB := Lib.hid (longB_val h1 h2)
    have HN := Lib.hid (longN_val h1 h2)
    simp only [HB.out, HN.out]
    have HF := Lib.hid (show longF s = (if shortF (longB s) (longN s) = (s, 0) then (longB s, longN s, 0) else (0, 0, 5)) by unfold longF; rw [if_neg (by omega)])
    cases k1 : ((shortF (longB s) (longN s)).2 != 0)
    · cases k2 : ((shortF (longB s) (longN s)).1 != s)
      · have H := Lib.hid (HF.out.trans (if_pos (Prod.ext (bne_eq_false_iff_eq.1 k2) (bne_eq_false_iff_eq.1 k1))))
        go_wp2_with (go_at_call 21; (with_reducible refine (c_round_Short _ _ _).mono ?_); intro e w2 hr; obtain ⟨rfl, hb, hc, hf, hz⟩ := hr.use; (try simp only [World.size_alloc, World.size_setCell, World.size_drew] at hz); clear hr)
        go_returns
        exact Ret.mk (by rw [H.out]; rfl) (by (repeat' (first | (with_reducible exact Below.refl _ _) | (with_reducible assumption) | (with_reducible refine Below.alloc ?_ ?_ _) | (with_reducible refine Below.drew ?_) | (with_reducible refine Below.setCell ?_ ?_ _) | (refine Below.trans ?_ (Below.mono (by with_reducible assumption) ?_)) | go_size)))
      · have H := Lib.hid (HF.out.trans (if_neg fun h => (bne_iff_ne.1 k2) (by rw [h])))
        go_wp2_with (go_at_call 21; (with_reducible refine (c_round_Short _ _ _).mono ?_); intro e w2 hr; obtain ⟨rfl, hb, hc, hf, hz⟩ := hr.use; (try simp only [World.size_alloc, World.size_setCell, World.size_drew] at hz); clear hr)
        go_returns
        exact Ret.mk (by rw [H.out]; rfl) (by (repeat' (first | (with_reducible exact Below.refl _ _) | (with_reducible assumption) | (with_reducible refine Below.alloc ?_ ?_ _) | (with_reducible refine Below.drew ?_) | (with_reducible refine Below.setCell ?_ ?_ _) | (refine Below.trans ?_ (Below.mono (by with_reducible assumption) ?_)) | go_size)))
    · have H := Lib.hid (HF.out.trans (if_neg fun h => (bne_iff_ne.1 k1) (by rw [h])))
      go_wp2_with (go_at_call 21; (with_reducible refine (c_round_Short _ _ _).mono ?_); intro e w2 hr; obtain ⟨rfl, hb, hc, hf, hz⟩ := hr.use; (try simp only [World.size_alloc, World.size_setCell, World.size_drew] at hz); clear hr)
      go_returns
      exact Ret.mk (by rw [H.out]; rfl) (by (repeat' (first | (with_reducible exact Below.refl _ _) | (with_reducible assumption) | (with_reducible refine Below.alloc ?_ ?_ _) | (with_reducible refine Below.drew ?_) | (with_reducible refine Below.setCell ?_ ?_ _) | (refine Below.trans ?_ (Below.mono (by with_reducible assumption) ?_)) | go_size)))
theorem mul_in' {x p : Int} (hx : 0 ≤ x) (hx2 : x ≤ 65535) (hp : 1 ≤ p) (hp2 : p ≤ 65536) : wrap64 (x * wrap64 p) = x * p := by
  have h1 : x * p ≤ 65535 * 65536 := Int.mul_le_mul hx2 hp2 (by omega) (by decide)
  have h2 : 0 ≤ x * p := Int.mul_nonneg hx (by omega)
  rw [wr64 (x := p) (by omega)]
  exact wr64 (by omega)
theorem longB_ref {s : Int} (h1 : 0 ≤ s) (h2 : s / 1048576 ≤ 16) : wrap64 (s % 1048576 / 16 * wrap64 (2 ^ (s / 1048576).toNat)) = longB s := by
  rw [mul_in' (by omega) (by omega) (pow_ge _) (pow_le16 (by omega)), show s % 1048576 / 16 = s / 16 % 65536 by omega]
  rfl
theorem longN_ref {s : Int} (h1 : 0 ≤ s) (h2 : s / 1048576 ≤ 16) : wrap64 (s % 16 * wrap64 (2 ^ (s / 1048576).toNat)) = longN s := by
  rw [mul_in' (by omega) (by omega) (pow_ge _) (pow_le16 (by omega))]
  rfl
theorem r_Long (s : Int) (hs : -9223372036854775808 ≤ s ∧ s ≤ 9223372036854775807) (w : World) :
    Calls Try.prog 33 #[.int .i64 s] w (Ret (.tuple #[.int .i64 (longF s).1, .int .i64 (longF s).2.1, .int .i64 (longF s).2.2]) w) := by
  cases h0 : inR s 0 17825791
  · have H := Lib.hid (show longF s = (0, 0, 5) by
      unfold longF
      rw [if_pos]
      have h1 : ¬(0 ≤ s ∧ s ≤ 17825791) := fun h => by rw [inR_iff.2 h] at h0; cases h0
      omega)
    go_enter Try.func33, Try.ntmps33
    go_wp2_with (go_at_call 56; (with_reducible refine (r_outside _ _ _ _).mono ?_); rintro e w1 ⟨rfl, rfl⟩)
    go_returns
    exact Ret.mk (by rw [H.out]; rfl) (by (repeat' (first | (with_reducible exact Below.refl _ _) | (with_reducible assumption) | (with_reducible refine Below.alloc ?_ ?_ _) | (with_reducible refine Below.drew ?_) | (with_reducible refine Below.setCell ?_ ?_ _) | (refine Below.trans ?_ (Below.mono (by with_reducible assumption) ?_)) | go_size)))
  · obtain ⟨h1, h3⟩ := inR_iff.1 h0
    have h2 : s / 1048576 ≤ 16 := by omega
    have t1 : s.tdiv 1048576 = s / 1048576 := Int.tdiv_eq_ediv_of_nonneg h1
    go_enter Try.func33, Try.ntmps33
    go_wp2_with (go_at_call 56; (with_reducible refine (r_outside _ _ _ _).mono ?_); rintro e w1 ⟨rfl, rfl⟩)
    have HB := Lib.hid (longB_ref h1 h2)
    have HN := Lib.hid (longN_ref h1 h2)
    simp only [HB.out, HN.out]
    have HF := Lib.hid (show longF s = (if shortF (longB s) (longN s) = (s, 0) then (longB s, longN s, 0) else (0, 0, 5)) by unfold longF; rw [if_neg (by omega)])
    cases k1 : ((shortF (longB s) (longN s)).2 != 0)
    · cases k2 : ((shortF (longB s) (longN s)).1 != s)
      · have H := Lib.hid (HF.out.trans (if_pos (Prod.ext (bne_eq_false_iff_eq.1 k2) (bne_eq_false_iff_eq.1 k1))))
        go_wp2_with (go_at_call 22; (with_reducible refine (r_Short _ _ _).mono ?_); intro e w2 hr; obtain ⟨rfl, hb, hc, hf, hz⟩ := hr.use; (try simp only [World.size_alloc, World.size_setCell, World.size_drew] at hz); clear hr)
        go_returns
        exact Ret.mk (by rw [H.out]; rfl) (by (repeat' (first | (with_reducible exact Below.refl _ _) | (with_reducible assumption) | (with_reducible refine Below.alloc ?_ ?_ _) | (with_reducible refine Below.drew ?_) | (with_reducible refine Below.setCell ?_ ?_ _) | (refine Below.trans ?_ (Below.mono (by with_reducible assumption) ?_)) | go_size)))
      · have H := Lib.hid (HF.out.trans (if_neg fun h => (bne_iff_ne.1 k2) (by rw [h])))
        go_wp2_with (go_at_call 22; (with_reducible refine (r_Short _ _ _).mono ?_); intro e w2 hr; obtain ⟨rfl, hb, hc, hf, hz⟩ := hr.use; (try simp only [World.size_alloc, World.size_setCell, World.size_drew] at hz); clear hr)
        go_returns
        exact Ret.mk (by rw [H.out]; rfl) (by (repeat' (first | (with_reducible exact Below.refl _ _) | (with_reducible assumption) | (with_reducible refine Below.alloc ?_ ?_ _) | (with_reducible refine Below.drew ?_) | (with_reducible refine Below.setCell ?_ ?_ _) | (refine Below.trans ?_ (Below.mono (by with_reducible assumption) ?_)) | go_size)))
    · have H := Lib.hid (HF.out.trans (if_neg fun h => (bne_iff_ne.1 k1) (by rw [h])))
      go_wp2_with (go_at_call 22; (with_reducible refine (r_Short _ _ _).mono ?_); intro e w2 hr; obtain ⟨rfl, hb, hc, hf, hz⟩ := hr.use; (try simp only [World.size_alloc, World.size_setCell, World.size_drew] at hz); clear hr)
      go_returns
      exact Ret.mk (by rw [H.out]; rfl) (by (repeat' (first | (with_reducible exact Below.refl _ _) | (with_reducible assumption) | (with_reducible refine Below.alloc ?_ ?_ _) | (with_reducible refine Below.drew ?_) | (with_reducible refine Below.setCell ?_ ?_ _) | (refine Below.trans ?_ (Below.mono (by with_reducible assumption) ?_)) | go_size)))
end Go.Proofs.Ytmalaomcolgfcaa
