/- What the parts say: The contracts of package cell's Check and Same and of their references: each returns a plain function of its values. Conditions: the numbers are numbers of 64 bits. -/
import Derived.Test.YthmpnnfejghhfaaGreatDoorP04
import Derived.Test.YthmpnnfejghhfaaGreatDoorP05
set_option linter.unusedVariables false
set_option linter.unusedSimpArgs false
namespace Go.Proofs.YthmpnnfejghhfaaGreatDoor
theorem az16 {P : Prop} (h : P := by
  go_enter Tryz.func53, Tryz.ntmps53
  go_wp2_with (first | (go_at_call 83; (with_reducible refine (r_KeyCheck _ hv.key _).mono ?_); refine am170 ?_; intro w1 hr hb hz c0 f0) | (go_at_call 55; (with_reducible refine (r_IsNumber _ _).mono ?_); rintro e w1 ⟨rfl, rfl⟩))
  go_returns
  exact Ret.int H.out.symm bel) : P := h
open Go.RowKit
set_option maxRecDepth 100000

def valE (v : Val) : Int := if v.is = true then (if keyOk v.key = true then (if v.n = 0 then 0 else 5) else 1) else (if inR v.n (-2147483648) 2147483647 = true then (if v.key = Key.zero then 0 else 5) else 1)

theorem c_cell_Check (v : Val) (w : World) :
    Calls Tryz.prog 44 #[.agg #[.bool v.is, .int .i64 v.n, .int .i64 v.key.perm, .int .i64 v.key.base, .int .i64 v.key.len, .int .i64 v.key.pos, .int .i64 v.key.tag]] w (Ret (.int .i64 (valE v)) w) := by
  cases hi : v.is
  · rcases Int.lt_or_le v.n (-2147483648) with h1 | h1
    · have H := Lib.hid (show valE v = 1 by simp [valE, hi, inR]; omega)
      go_enter Tryz.func44, Tryz.ntmps44
      exact az10
    · have d1 : decide (v.n < -2147483648) = false := (by simpa using h1)
      rcases Int.lt_or_le 2147483647 v.n with h2 | h2
      · have H := Lib.hid (show valE v = 1 by simp [valE, hi, inR]; omega)
        go_enter Tryz.func44, Tryz.ntmps44
        exact az10
      · have d2 : decide (2147483647 < v.n) = false := (by simpa using h2); have hr : inR v.n (-2147483648) 2147483647 = true := inR_iff.2 ⟨h1, h2⟩
        by_cases hk : v.key = Key.zero
        · have H := Lib.hid (show valE v = 0 by simp [valE, hi, hr, hk]); have hk' : decide (v.key = Key.mk 0 0 0 0 0) = true := decide_eq_true (show v.key = Key.mk 0 0 0 0 0 from hk); clear hk hr
          go_enter Tryz.func44, Tryz.ntmps44
          exact az10
        · have H := Lib.hid (show valE v = 5 by simp [valE, hi, hr, hk]); have hk' : decide (v.key = Key.mk 0 0 0 0 0) = false := decide_eq_false (show ¬ v.key = Key.mk 0 0 0 0 0 from hk); clear hk hr
          go_enter Tryz.func44, Tryz.ntmps44
          exact az10
  · cases hk : keyOk v.key
    · have H := Lib.hid (show valE v = 1 by simp [valE, hi, hk]); have h0 := keyE_no hk
      go_enter Tryz.func44, Tryz.ntmps44
      exact az10
    · have h0 := keyE_ok hk
      by_cases hn : v.n = 0
      · have H := Lib.hid (show valE v = 0 by simp [valE, hi, hk, hn]); have hn' : (v.n != 0) = false := (by simp [hn]); clear hn
        go_enter Tryz.func44, Tryz.ntmps44
        exact az10
      · have H := Lib.hid (show valE v = 5 by simp [valE, hi, hk, hn]); have hn' : (v.n != 0) = true := (by simp [hn])
        go_enter Tryz.func44, Tryz.ntmps44
        exact az10
theorem r_CellCheck (v : Val) (hv : v.Wf) (w : World) :
    Calls Tryz.prog 53 #[.agg #[.bool v.is, .int .i64 v.n, .int .i64 v.key.perm, .int .i64 v.key.base, .int .i64 v.key.len, .int .i64 v.key.pos, .int .i64 v.key.tag]] w (Ret (.int .i64 (valE v)) w) := by
  cases hi : v.is
  · cases hr : inR v.n (-2147483648) 2147483647
    · have H := Lib.hid (show valE v = 1 by simp [valE, hi, hr])
      exact az16
    · by_cases hk : v.key = Key.zero
      · have H := Lib.hid (show valE v = 0 by simp [valE, hi, hr, hk]); have hk' : decide (v.key = Key.mk 0 0 0 0 0) = true := decide_eq_true (show v.key = Key.mk 0 0 0 0 0 from hk); clear hk
        exact az16
      · have H := Lib.hid (show valE v = 5 by simp [valE, hi, hr, hk]); have hk' : decide (v.key = Key.mk 0 0 0 0 0) = false := decide_eq_false (show ¬ v.key = Key.mk 0 0 0 0 0 from hk); clear hk
        exact az16
  · cases hk : keyOk v.key
    · have H := Lib.hid (show valE v = 1 by simp [valE, hi, hk]); have h0 := keyE_no hk
      exact az16
    · have h0 := keyE_ok hk
      by_cases hn : v.n = 0
      · have H := Lib.hid (show valE v = 0 by simp [valE, hi, hk, hn]); have hn' : (v.n != 0) = false := (by simp [hn]); clear hn
        exact az16
      · have H := Lib.hid (show valE v = 5 by simp [valE, hi, hk, hn]); have hn' : (v.n != 0) = true := (by simp [hn])
        exact az16
end Go.Proofs.YthmpnnfejghhfaaGreatDoor
