/- The contracts of package num and of its references: each returns a plain function of its numbers. Conditions: none. -/
import Derived.Test.YthfdpfapgommmaaBase
namespace Go.Proofs.Ythfdpfapgommmaa
open Go.RowKit
set_option linter.unusedVariables false
set_option linter.unusedSimpArgs false

/-- a number within 32 bits -/
def wr (n : Int) : Int := (n + 2147483648) % 4294967296 - 2147483648
theorem wr_lo (n : Int) : -2147483648 ≤ wr n := by unfold wr; omega
theorem wr_hi (n : Int) : wr n ≤ 2147483647 := by unfold wr; omega
theorem wr_wr (n : Int) : wr (wr n) = wr n := by unfold wr; omega
theorem wr_eq {n : Int} (h : -2147483648 ≤ n) (h' : n ≤ 2147483647) : wr n = n := by unfold wr; omega
theorem wrap32_wr (n : Int) : wrap32 n = wr n := by unfold wrap32 wr; rfl
theorem wrap64_wr (n : Int) : wrap64 (wr n) = wr n := by
  have := wr_lo n; have := wr_hi n
  unfold wrap64; omega
theorem wr_wrap64 (n : Int) : wr (wrap64 n) = wr n := by unfold wr wrap64; omega
theorem wrap64_wrap32 (n : Int) : wrap64 (wrap32 n) = wr n := by rw [wrap32_wr, wrap64_wr]
theorem mul_bd (a b m : Int) (h1 : -m ≤ a) (h2 : a ≤ m) (h3 : -m ≤ b) (h4 : b ≤ m) : -(m * m) ≤ a * b ∧ a * b ≤ m * m := by
  have ha : a.natAbs ≤ m.toNat := by omega
  have hb : b.natAbs ≤ m.toNat := by omega
  have h := Nat.mul_le_mul ha hb
  have e : (a * b).natAbs = a.natAbs * b.natAbs := Int.natAbs_mul a b
  rw [← e] at h
  have hm : ((m.toNat : Nat) : Int) = m := by omega
  have hh : (((m.toNat * m.toNat : Nat)) : Int) = m * m := by rw [Int.natCast_mul, hm]
  generalize hx : a * b = x at *
  generalize hy : m * m = y at *
  omega

/-- does it lie between the two? -/
def inR (n low high : Int) : Bool := decide (low ≤ n) && decide (n ≤ high)
theorem inR_iff {n low high : Int} : inR n low high = true ↔ low ≤ n ∧ n ≤ high := by simp [inR]
theorem inR_not {n low high : Int} : inR n low high = false ↔ n < low ∨ high < n := by
  rw [Bool.eq_false_iff, ne_eq, inR_iff]; omega

def truthOf (b : Bool) : Int := if b then 1 else 0
/-- what Div gives: the quotient, and the error -/
def dvq (a b : Int) : Int := if wr b = 0 then 0 else wr (Int.tdiv (wr a) (wr b))
def dve (b : Int) : Int := if wr b = 0 then 14 else 0
def calc0 (which a b : Int) : Int := if (which == 0) = true then wr (wr a + wr b) else if (which == 1) = true then wr (wr a - wr b) else if (which == 2) = true then wr (wr a * wr b) else truthOf (decide (wr a < wr b))

theorem c_num_Wrap (n : Int) (w : World) :
    Calls Try.prog 22 #[.int .i64 n] w fun e w' => e = .returned (.int .i64 (wr n)) ∧ w = w' := by
  go_enter Try.func22, Try.ntmps22
  go_wp2
  go_ret
  exact ⟨eint (wrap64_wrap32 n), rfl⟩
theorem c_num_Add (a b : Int) (w : World) :
    Calls Try.prog 24 #[.int .i64 a, .int .i64 b] w fun e w' => e = .returned (.int .i64 (wr (wr a + wr b))) ∧ w = w' := by
  have := wr_lo a; have := wr_lo b; have := wr_hi a; have := wr_hi b
  go_enter Try.func24, Try.ntmps24
  go_wp2_with (go_at_call 22; refine (c_num_Wrap _ _).mono ?_; rintro e w' ⟨rfl, rfl⟩)
  go_ret
  exact ⟨rfl, rfl⟩
theorem c_num_Sub (a b : Int) (w : World) :
    Calls Try.prog 26 #[.int .i64 a, .int .i64 b] w fun e w' => e = .returned (.int .i64 (wr (wr a - wr b))) ∧ w = w' := by
  have := wr_lo a; have := wr_lo b; have := wr_hi a; have := wr_hi b
  go_enter Try.func26, Try.ntmps26
  go_wp2_with (go_at_call 22; refine (c_num_Wrap _ _).mono ?_; rintro e w' ⟨rfl, rfl⟩)
  go_ret
  exact ⟨rfl, rfl⟩
theorem wrap_mul (a b : Int) : wrap64 (wr a * wr b) = wr a * wr b := by
  have h1 := wr_lo a; have h2 := wr_lo b; have h3 := wr_hi a; have h4 := wr_hi b
  have := mul_bd (wr a) (wr b) 2147483648 (by omega) (by omega) (by omega) (by omega)
  unfold wrap64; omega
theorem c_num_Mul (a b : Int) (w : World) :
    Calls Try.prog 27 #[.int .i64 a, .int .i64 b] w fun e w' => e = .returned (.int .i64 (wr (wr a * wr b))) ∧ w = w' := by
  have hm := wrap_mul a b
  go_enter Try.func27, Try.ntmps27
  go_wp2_with (go_at_call 22; refine (c_num_Wrap _ _).mono ?_; rintro e w' ⟨rfl, rfl⟩)
  go_ret
  exact ⟨rfl, rfl⟩
theorem c_num_Less (a b : Int) (w : World) :
    Calls Try.prog 28 #[.int .i64 a, .int .i64 b] w fun e w' => e = .returned (.int .i64 (truthOf (decide (wr a < wr b)))) ∧ w = w' := by
  go_enter Try.func28, Try.ntmps28
  go_wp2_with (go_at_call 22; refine (c_num_Wrap _ _).mono ?_; rintro e w' ⟨rfl, rfl⟩)
  · go_ret
    exact ⟨eint (by simp [truthOf, *]), rfl⟩
  · go_ret
    exact ⟨eint (by simp [truthOf, *]), rfl⟩
theorem c_num_Div (a b : Int) (w : World) :
    Calls Try.prog 18 #[.int .i64 a, .int .i64 b] w fun e w' => e = .returned (.tuple #[.int .i64 (dvq a b), .int .i64 (dve b)]) ∧ w = w' := by
  have := wr_lo a; have := wr_lo b; have := wr_hi a; have := wr_hi b
  by_cases hb : wr b = 0
  · have hd : (wr b == 0) = true := by simp [hb]
    have e1 : dvq a b = 0 := by simp [dvq, hb]
    have e2 : dve b = 14 := by simp [dve, hb]
    have H := Lib.hid hb
    have H1 := Lib.hid e1
    have H2 := Lib.hid e2
    clear hb e1 e2
    go_enter Try.func18, Try.ntmps18
    go_wp2_with (go_at_call 22; refine (c_num_Wrap _ _).mono ?_; rintro e w' ⟨rfl, rfl⟩)
    go_ret2
    exact ⟨eint2 H1.out.symm H2.out.symm, rfl⟩
  · have hd : (wr b == 0) = false := by simp [hb]
    have e1 : wr (Int.tdiv (wr a) (wr b)) = dvq a b := by simp [dvq, hb]
    have e2 : dve b = 0 := by simp [dve, hb]
    have H1 := Lib.hid e1
    have H2 := Lib.hid e2
    clear e1 e2
    go_enter Try.func18, Try.ntmps18
    go_wp2_with (go_at_call 22; refine (c_num_Wrap _ _).mono ?_; rintro e w' ⟨rfl, rfl⟩)
    go_ret2
    exact ⟨eint2 ((wr_wrap64 _).trans H1.out) H2.out.symm, rfl⟩
theorem tmod_cases (n m : Int) (hm : 0 < m) : (0 ≤ n ∧ n.tmod m = n % m) ∨ (n < 0 ∧ n.tmod m = -((-n) % m)) := by
  rcases Int.lt_or_le n 0 with h | h
  · refine .inr ⟨h, ?_⟩
    have e : n = -(-n) := by omega
    conv => lhs; rw [e, Int.neg_tmod]
    rw [Int.tmod_eq_emod_of_nonneg (by omega)]
  · exact .inl ⟨h, Int.tmod_eq_emod_of_nonneg h⟩
/-- the remainder by m that is not below 0 (m = 2 ^ 32) -/
theorem r_Rest32 (n : Int) (w : World) :
    Calls Try.prog 48 #[.int .i64 n, .int .i64 4294967296] w fun e w' => e = .returned (.int .i64 (n % 4294967296)) ∧ w = w' := by
  have hc := tmod_cases n 4294967296 (by omega)
  by_cases h : n.tmod 4294967296 < 0
  · have e1 : n.tmod 4294967296 + 4294967296 = n % 4294967296 := by omega
    have H1 := Lib.hid e1
    have b1 : -4294967296 ≤ n.tmod 4294967296 := by omega
    clear e1 hc
    go_enter Try.func48, Try.ntmps48
    go_wp2
    go_ret
    exact ⟨eint H1.out, rfl⟩
  · have e1 : n.tmod 4294967296 = n % 4294967296 := by omega
    have H1 := Lib.hid e1
    have b1 : 0 ≤ n.tmod 4294967296 := by omega
    have b2 : n.tmod 4294967296 ≤ 4294967296 := by omega
    clear e1 hc
    go_enter Try.func48, Try.ntmps48
    go_wp2
    go_ret
    exact ⟨eint H1.out, rfl⟩
theorem r_Wrap (n : Int) (w : World) :
    Calls Try.prog 23 #[.int .i64 n] w fun e w' => e = .returned (.int .i64 (wr n)) ∧ w = w' := by
  have b1 : 0 ≤ n % 4294967296 := by omega
  have b2 : n % 4294967296 < 4294967296 := by omega
  go_enter Try.func23, Try.ntmps23
  go_wp2_with (go_at_call 48; refine (r_Rest32 _ _).mono ?_; rintro e w' ⟨rfl, rfl⟩)
  all_goals
    go_ret
    exact ⟨eint (by unfold wr; omega), rfl⟩
theorem r_truth (b : Bool) (w : World) :
    Calls Try.prog 49 #[.bool b] w fun e w' => e = .returned (.int .i64 (truthOf b)) ∧ w = w' := by
  cases b
  all_goals
    go_enter Try.func49, Try.ntmps49
    go_wp2
    go_ret
    exact ⟨rfl, rfl⟩
theorem r_outside (n low high : Int) (w : World) :
    Calls Try.prog 51 #[.int .i64 n, .int .i64 low, .int .i64 high] w fun e w' => e = .returned (.bool (!(inR n low high))) ∧ w = w' := by
  go_enter Try.func51, Try.ntmps51
  go_wp2
  all_goals
    go_ret
    exact ⟨ebool (by rw [Bool.eq_iff_iff]; simp [inR] <;> omega), rfl⟩
theorem r_IsNumber (n : Int) (w : World) :
    Calls Try.prog 54 #[.int .i64 n] w fun e w' => e = .returned (.bool (inR n (-2147483648) 2147483647)) ∧ w = w' := by
  go_enter Try.func54, Try.ntmps54
  go_wp2_with (go_at_call 51; (with_reducible refine (r_outside _ _ _ _).mono ?_); rintro e w1 ⟨rfl, rfl⟩)
  all_goals
    go_ret
    exact ⟨ebool (by simp), rfl⟩
/-- what Calc gives: 0 the sum, 1 the difference, 2 the product, 3 whether it is less -/
theorem r_Calc (a b which : Int) (w : World) :
    Calls Try.prog 25 #[.int .i64 a, .int .i64 b, .int .i64 which] w fun e w' => e = .returned (.int .i64 (calc0 which a b)) ∧ w = w' := by
  have b1 := wr_lo a; have b2 := wr_lo b; have b3 := wr_hi a; have b4 := wr_hi b
  have hm := mul_bd (wr a) (wr b) 2147483648 (by omega) (by omega) (by omega) (by omega)
  obtain ⟨m1, m2⟩ := hm
  have hw := wrap_mul a b
  go_enter Try.func25, Try.ntmps25
  go_wp2_with (first | (go_at_call 23; refine (r_Wrap _ _).mono ?_; rintro e w' ⟨rfl, rfl⟩) | (go_at_call 49; refine (r_truth _ _).mono ?_; rintro e w' ⟨rfl, rfl⟩))
  all_goals
    go_ret
    exact ⟨eint (by simp only [calc0, *, if_true, if_false, Bool.false_eq_true]), rfl⟩
theorem tdiv_bd (a b : Int) (h1 : -2147483648 ≤ a) (h2 : a ≤ 2147483647) : -2147483648 ≤ a.tdiv b ∧ a.tdiv b ≤ 2147483648 := by
  have := Int.natAbs_tdiv_le_natAbs a b
  omega
theorem div_nn (a b : Int) (ha : wr a ≤ 0) (hb : wr b < 0) : wr (wrap64 (wrap64 ((wr a).tdiv (wr b)))) = dvq a b := by
  rw [wr_wrap64, wr_wrap64]
  unfold dvq
  rw [if_neg (by omega)]
theorem div_np (a b : Int) (ha : wr a ≤ 0) (hb : 0 < wr b) : wr (wrap64 (-wrap64 (-(wr a).tdiv (wr b)))) = dvq a b := by
  have hd := tdiv_bd (wr a) (wr b) (wr_lo a) (wr_hi a)
  rw [show wrap64 (-(wr a).tdiv (wr b)) = -(wr a).tdiv (wr b) by unfold wrap64; omega, wr_wrap64]
  unfold dvq
  rw [if_neg (by omega), Int.neg_neg]
theorem div_pn (a b : Int) (ha : 0 ≤ wr a) (hb : wr b < 0) : wr (wrap64 (-wrap64 (-(wr a).tdiv (wr b)))) = dvq a b := by
  have hd := tdiv_bd (wr a) (wr b) (wr_lo a) (wr_hi a)
  rw [show wrap64 (-(wr a).tdiv (wr b)) = -(wr a).tdiv (wr b) by unfold wrap64; omega, wr_wrap64]
  unfold dvq
  rw [if_neg (by omega), Int.neg_neg]
theorem div_pp (a b : Int) (ha : 0 ≤ wr a) (hb : 0 < wr b) : wr (wrap64 (wr a / wr b)) = dvq a b := by
  rw [wr_wrap64]
  unfold dvq
  rw [if_neg (by omega), Int.tdiv_eq_ediv_of_nonneg ha]
theorem r_Div (a b : Int) (w : World) :
    Calls Try.prog 19 #[.int .i64 a, .int .i64 b] w fun e w' => e = .returned (.tuple #[.int .i64 (dvq a b), .int .i64 (dve b)]) ∧ w = w' := by
  have b1 := wr_lo a; have b2 := wr_lo b; have b3 := wr_hi a; have b4 := wr_hi b
  by_cases hb : wr b = 0
  · have hd : (wr b == 0) = true := by simp [hb]
    have H1 := Lib.hid (show dvq a b = 0 by simp [dvq, hb])
    have H2 := Lib.hid (show dve b = 14 by simp [dve, hb])
    clear hb
    go_enter Try.func19, Try.ntmps19
    go_wp2_with (go_at_call 23; refine (r_Wrap _ _).mono ?_; rintro e w' ⟨rfl, rfl⟩)
    go_ret2
    exact ⟨eint2 H1.out.symm H2.out.symm, rfl⟩
  · have hd : (wr b == 0) = false := by simp [hb]
    have H2 := Lib.hid (show dve b = 0 by simp [dve, hb])
    rcases Int.lt_or_le (wr a) 0 with ha | ha
    · have da : decide (wr a < 0) = true := by simpa using ha
      rcases Int.lt_or_le (wr b) 0 with hs | hs
      · have db : decide (wr b < 0) = true := by simpa using hs
        have H1 := Lib.hid (div_nn a b (by omega) (by omega))
        go_enter Try.func19, Try.ntmps19
        go_wp2_with (go_at_call 23; refine (r_Wrap _ _).mono ?_; rintro e w' ⟨rfl, rfl⟩)
        go_ret2
        exact ⟨eint2 H1.out H2.out.symm, rfl⟩
      · have db : decide (wr b < 0) = false := by simpa using hs
        have H1 := Lib.hid (div_np a b (by omega) (by omega))
        go_enter Try.func19, Try.ntmps19
        go_wp2_with (go_at_call 23; refine (r_Wrap _ _).mono ?_; rintro e w' ⟨rfl, rfl⟩)
        go_ret2
        exact ⟨eint2 H1.out H2.out.symm, rfl⟩
    · have da : decide (wr a < 0) = false := by simpa using ha
      rcases Int.lt_or_le (wr b) 0 with hs | hs
      · have db : decide (wr b < 0) = true := by simpa using hs
        have H1 := Lib.hid (div_pn a b (by omega) (by omega))
        go_enter Try.func19, Try.ntmps19
        go_wp2_with (go_at_call 23; refine (r_Wrap _ _).mono ?_; rintro e w' ⟨rfl, rfl⟩)
        go_ret2
        exact ⟨eint2 H1.out H2.out.symm, rfl⟩
      · have db : decide (wr b < 0) = false := by simpa using hs
        have H1 := Lib.hid (div_pp a b (by omega) (by omega))
        go_enter Try.func19, Try.ntmps19
        go_wp2_with (go_at_call 23; refine (r_Wrap _ _).mono ?_; rintro e w' ⟨rfl, rfl⟩)
        go_ret2
        exact ⟨eint2 H1.out H2.out.symm, rfl⟩
end Go.Proofs.Ythfdpfapgommmaa
