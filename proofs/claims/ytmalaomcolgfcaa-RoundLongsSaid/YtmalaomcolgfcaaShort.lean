/- The contracts of Short and of its reference: each returns a plain function of its values. Conditions: none. -/
import Derived.Test.YtmalaomcolgfcaaRound
namespace Go.Proofs.Ytmalaomcolgfcaa
open Go.RowKit
set_option linter.unusedVariables false
set_option linter.unusedSimpArgs false

/-- '|' of a multiple of a power of two and of what is below it is their sum -/
theorem or_add (x y : Int) (j : Nat) (hj : j < 63) (hx : 0 ≤ x) (hxm : x % 2 ^ j = 0) (hy : 0 ≤ y) (hyl : y < 2 ^ j) (hs : x + y < 9223372036854775808) : bits .or .i64 x y = x + y := by
  have e : bits .or .i64 x y = wrap64 ((BitVec.ofInt 64 x ||| BitVec.ofInt 64 y).toNat : Int) := by
    unfold bits; exact IntWalk.i64_left _
  obtain ⟨a, rfl⟩ := Int.eq_ofNat_of_zero_le hx
  obtain ⟨b, rfl⟩ := Int.eq_ofNat_of_zero_le hy
  have hb : b < 2 ^ j := by exact_mod_cast hyl
  have ha : a % 2 ^ j = 0 := by exact_mod_cast hxm
  have h1 : (BitVec.ofInt 64 (a : Int)).toNat = a := by simp [BitVec.toNat_ofInt]; omega
  have h2 : (BitVec.ofInt 64 (b : Int)).toNat = b := by simp [BitVec.toNat_ofInt]; omega
  obtain ⟨c, hc⟩ := Nat.dvd_of_mod_eq_zero ha
  have h3 : a ||| b = a + b := by rw [hc, Nat.two_pow_add_eq_or_of_lt hb]
  rw [e, BitVec.toNat_or, h1, h2, h3, wr64 (by omega)]
  simp
/-- what Short returns -/
def shortF (b n : Int) : Int × Int := if isRg b n = true then (if fitsF b n = true then ((lst b n : Int) * 1048576 + b / 2 ^ lst b n * 16 + n / 2 ^ lst b n, 0) else (0, 5)) else (0, 1)
theorem short_val {b n : Int} (h : fitsF b n = true) : bits .or .i64 (bits .or .i64 (IntKind.i64.wrap ((lst b n : Int) * 1048576)) (IntKind.i64.wrap (b / 2 ^ min (lst b n) 64 * 16))) (n / 2 ^ min (lst b n) 64) = (lst b n : Int) * 1048576 + b / 2 ^ lst b n * 16 + n / 2 ^ lst b n := by
  obtain ⟨hr, hf⟩ := fits_lst h
  obtain ⟨hb, hn⟩ := isRg_iff.1 hr
  obtain ⟨_, _, h3⟩ := fitBy_iff.1 hf
  have hl := (lst_spec hr).2.2
  rw [Nat.min_eq_left (show lst b n ≤ 64 by omega)]
  have p1 := pow_ge (lst b n)
  have v0 : 0 ≤ b / 2 ^ lst b n := Int.ediv_nonneg hb.1 (by omega)
  have v1 : b / 2 ^ lst b n ≤ b := Int.ediv_le_self _ hb.1
  have v2 : 0 ≤ n / 2 ^ lst b n := Int.ediv_nonneg hn.1 (by omega)
  have v3 : n / 2 ^ lst b n ≤ 15 := Int.ediv_le_of_le_mul (by omega) h3
  generalize b / 2 ^ lst b n = x at *
  generalize n / 2 ^ lst b n = y at *
  have e20 : (2 : Int) ^ 20 = 1048576 := by rw [show (20 : Nat) = 10 + 10 from rfl, Int.pow_add]; decide
  rw [IntWalk.i64_in _ (by omega), IntWalk.i64_in _ (by omega), or_add _ (x * 16) 20 (by decide) (by omega) (by rw [e20]; omega) (by omega) (by rw [e20]; omega) (by omega),
    or_add _ y 4 (by decide) (by omega) (by omega) (by omega) (by omega) (by omega)]
theorem c_round_Short (b n : Int) (w : World) :
    Calls Try.prog 21 #[.int .i64 b, .int .i64 n] w (Ret (.tuple #[.int .i64 (shortF b n).1, .int .i64 (shortF b n).2]) w) := by
  cases h : isRg b n
  · have H := Lib.hid (show shortF b n = (0, 1) by simp [shortF, h])
    go_enter Try.func21, Try.ntmps21
    go_wp2_with (go_at_call 48; (with_reducible refine (c_round_isRange _ _ _).mono ?_); intro e w1 hr; obtain ⟨rfl, hb, hc, hf, hz⟩ := hr.use; (try simp only [World.size_alloc, World.size_setCell, World.size_drew] at hz); clear hr)
    go_returns
    exact Ret.mk (by rw [H.out]; rfl) (by (repeat' (first | (with_reducible exact Below.refl _ _) | (with_reducible assumption) | (with_reducible refine Below.alloc ?_ ?_ _) | (with_reducible refine Below.drew ?_) | (with_reducible refine Below.setCell ?_ ?_ _) | (refine Below.trans ?_ (Below.mono (by with_reducible assumption) ?_)) | go_size)))
  · cases h2 : fitsF b n
    · have H := Lib.hid (show shortF b n = (0, 5) by simp [shortF, h, h2])
      go_enter Try.func21, Try.ntmps21
      go_wp2_with (first | (go_at_call 48; (with_reducible refine (c_round_isRange _ _ _).mono ?_); intro e w1 hr; obtain ⟨rfl, hb, hc, hf, hz⟩ := hr.use; (try simp only [World.size_alloc, World.size_setCell, World.size_drew] at hz); clear hr) | (go_at_call 23; (with_reducible refine (c_round_Fits _ _ _).mono ?_); intro e w2 hr; obtain ⟨rfl, hb, hc, hf, hz⟩ := hr.use; (try simp only [World.size_alloc, World.size_setCell, World.size_drew] at hz); clear hr))
      go_returns
      exact Ret.mk (by rw [H.out]; rfl) (by (repeat' (first | (with_reducible exact Below.refl _ _) | (with_reducible assumption) | (with_reducible refine Below.alloc ?_ ?_ _) | (with_reducible refine Below.drew ?_) | (with_reducible refine Below.setCell ?_ ?_ _) | (refine Below.trans ?_ (Below.mono (by with_reducible assumption) ?_)) | go_size)))
    · have H := Lib.hid (show shortF b n = ((lst b n : Int) * 1048576 + b / 2 ^ lst b n * 16 + n / 2 ^ lst b n, 0) by simp [shortF, h, h2])
      go_enter Try.func21, Try.ntmps21
      go_wp2_with (first | (go_at_call 48; (with_reducible refine (c_round_isRange _ _ _).mono ?_); intro e w1 hr; obtain ⟨rfl, hb, hc, hf, hz⟩ := hr.use; (try simp only [World.size_alloc, World.size_setCell, World.size_drew] at hz); clear hr) | (go_at_call 23; (with_reducible refine (c_round_Fits _ _ _).mono ?_); intro e w2 hr; obtain ⟨rfl, hb, hc, hf, hz⟩ := hr.use; (try simp only [World.size_alloc, World.size_setCell, World.size_drew] at hz); clear hr) | (go_at_call 49; (with_reducible refine (c_round_least _ _ h _).mono ?_); intro e w3 hr; obtain ⟨rfl, hb, hc, hf, hz⟩ := hr.use; (try simp only [World.size_alloc, World.size_setCell, World.size_drew] at hz); clear hr))
      (refine wp_region_kept (w0 := w) (bs := []) (by kernel_rfl) (by kernel_rfl) (Kept.mk0 (by (repeat' (first | (with_reducible exact Below.refl _ _) | (with_reducible assumption) | (with_reducible refine Below.alloc ?_ ?_ _) | (with_reducible refine Below.drew ?_) | (with_reducible refine Below.setCell ?_ ?_ _) | (refine Below.trans ?_ (Below.mono (by with_reducible assumption) ?_)) | go_size)))) ?_; (repeat (first | go_big_quiet_skip | (go_big_quiet_want; first | (refine BigFrame.quiet_move _ rfl ?_; (simp only [Act.put, Act.eval, Array.getD_eq_getD_getElem?, List.getElem?_toArray, List.getElem?_cons_zero, List.getElem?_cons_succ, Option.getD_some, List.setIfInBounds_toArray, List.set_cons_zero, List.set_cons_succ]); go_big_quiet_on) | (refine BigFrame.quiet_assign _ rfl ?_; (simp only [Act.put, Act.eval, Array.getD_eq_getD_getElem?, List.getElem?_toArray, List.getElem?_cons_zero, List.getElem?_cons_succ, Option.getD_some, List.setIfInBounds_toArray, List.set_cons_zero, List.set_cons_succ]); go_big_quiet_on) | (apply quiet_call; (focus (intro W; go_simp; constructor <;> with_reducible rfl)); (focus (intro W hW; first | fail)); (simp only [Act.put, Act.eval, Array.getD_eq_getD_getElem?, List.getElem?_toArray, List.getElem?_cons_zero, List.getElem?_cons_succ, Option.getD_some, List.setIfInBounds_toArray, List.set_cons_zero, List.set_cons_succ]); go_big_quiet_on) | (apply quiet_run; (focus (intro W hW; obtain ⟨hB, hS, hC, hF⟩ := hW; clear hC hF; (try simp only [List.length_cons, List.length_nil] at hS); go_simp; first | done | with_reducible rfl)); (simp only [Act.put, Act.eval, Array.getD_eq_getD_getElem?, List.getElem?_toArray, List.getElem?_cons_zero, List.getElem?_cons_succ, Option.getD_some, List.setIfInBounds_toArray, List.set_cons_zero, List.set_cons_succ]); go_big_quiet_on)))); refine wpQuiet_nil ?_; intro w1 hW; obtain ⟨hB, hS, hC, hF⟩ := hW; clear hC hF; (try simp only [List.length_cons, List.length_nil] at hS))
      have HV := Lib.hid (short_val h2)
      simp only [HV.out]
      go_wp2_with fail
      go_returns
      exact Ret.mk (by rw [H.out]; rfl) (by (repeat' (first | (with_reducible exact Below.refl _ _) | (with_reducible assumption) | (with_reducible refine Below.alloc ?_ ?_ _) | (with_reducible refine Below.drew ?_) | (with_reducible refine Below.setCell ?_ ?_ _) | (refine Below.trans ?_ (Below.mono (by with_reducible assumption) ?_)) | go_size)))
end Go.Proofs.Ytmalaomcolgfcaa
