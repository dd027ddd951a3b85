/- The contracts of package keys and of its references: each returns a plain function of its keys, and the memory that was there is as it was. Conditions: the numbers of a key are numbers of 64 bits. -/
import Derived.Test.YthdlfepakkihnaaModel
namespace Go.Proofs.Ythdlfepakkihnaa
open Go.RowKit
set_option linter.unusedVariables false
set_option linter.unusedSimpArgs false
set_option maxRecDepth 100000

theorem c_keys_within (n low high : Int) (w : World) :
    Calls Try.prog 100 #[.int .i64 n, .int .i64 low, .int .i64 high] w fun e w' => e = .returned (.bool (inR n low high)) ∧ w = w' := by
  rcases Int.lt_or_le n low with h | h
  · go_enter Try.func100, Try.ntmps100
    go_wp2
    go_ret
    exact ⟨ebool (by simp only [inR]; rw [decide_eq_false (by omega)]; rfl), rfl⟩
  · go_enter Try.func100, Try.ntmps100
    go_wp2
    go_ret
    exact ⟨ebool (by simp only [inR]; rw [decide_eq_true h]; rfl), rfl⟩
theorem c_keys_Check (k : Key) (w : World) :
    Calls Try.prog 92 #[.agg #[.int .i64 k.perm, .int .i64 k.base, .int .i64 k.len, .int .i64 k.pos, .int .i64 k.tag]] w (Ret (.int .i64 (keyE k)) w) := by
  by_cases hb : inR k.base 0 400 = true
  · obtain ⟨b1, b2⟩ := inR_iff.1 hb
    go_enter Try.func92, Try.ntmps92
    go_wp2_with (go_at_call 100; refine (c_keys_within _ _ _ _).mono ?_; rintro e w' ⟨rfl, rfl⟩)
    all_goals
      go_ret
      refine Ret.int ?_ (by (repeat' (first | (with_reducible exact Below.refl _ _) | (with_reducible assumption) | (with_reducible refine Below.alloc ?_ ?_ _) | (with_reducible refine Below.drew ?_) | (with_reducible refine Below.setCell ?_ ?_ _) | (refine Below.trans ?_ (Below.mono (by with_reducible assumption) ?_)) | go_size)))
      simp_all [keyE, keyOk]
  · have hb' : inR k.base 0 400 = false := by simpa using hb
    clear hb
    go_enter Try.func92, Try.ntmps92
    go_wp2_with (go_at_call 100; refine (c_keys_within _ _ _ _).mono ?_; rintro e w' ⟨rfl, rfl⟩)
    all_goals
      go_ret
      refine Ret.int ?_ (by (repeat' (first | (with_reducible exact Below.refl _ _) | (with_reducible assumption) | (with_reducible refine Below.alloc ?_ ?_ _) | (with_reducible refine Below.drew ?_) | (with_reducible refine Below.setCell ?_ ?_ _) | (refine Below.trans ?_ (Below.mono (by with_reducible assumption) ?_)) | go_size)))
      simp_all [keyE, keyOk]
theorem r_KeyCheck (k : Key) (hk : k.Wf) (w : World) :
    Calls Try.prog 65 #[.agg #[.int .i64 k.perm, .int .i64 k.base, .int .i64 k.len, .int .i64 k.pos, .int .i64 k.tag]] w (Ret (.int .i64 (keyE k)) w) := by
  obtain ⟨⟨p1, p2⟩, ⟨b1, b2⟩, ⟨l1, l2⟩, ⟨a1, a2⟩, ⟨t1, t2⟩⟩ := hk
  by_cases hb : (0 ≤ k.base ∧ k.base ≤ 400) ∧ 0 ≤ k.len ∧ k.len ≤ 400
  · obtain ⟨⟨c1, c2⟩, c3, c4⟩ := hb
    have h1 := inR_iff.2 ⟨c1, c2⟩
    have h2 := inR_iff.2 ⟨c3, c4⟩
    go_enter Try.func65, Try.ntmps65
    go_wp2_with (go_at_call 66; (with_reducible refine (r_outside _ _ _ _).mono ?_); rintro e w1 ⟨rfl, rfl⟩)
    all_goals
      go_returns
      refine Ret.int ?_ (by (repeat' (first | (with_reducible exact Below.refl _ _) | (with_reducible assumption) | (with_reducible refine Below.alloc ?_ ?_ _) | (with_reducible refine Below.drew ?_) | (with_reducible refine Below.setCell ?_ ?_ _) | (refine Below.trans ?_ (Below.mono (by with_reducible assumption) ?_)) | go_size)))
      simp only [Bool.not_eq_true', Bool.not_eq_false', Bool.not_eq_true, Bool.not_eq_false, Bool.not_not, Bool.and_eq_true, Bool.or_eq_true, Bool.and_eq_false_iff, Bool.or_eq_false_iff, inR_iff, inR_not, decide_eq_true_eq, decide_eq_false_iff_not, beq_iff_eq, bne_iff_ne, beq_eq_false_iff_ne, bne_eq_false_iff_eq, ne_eq] at *
      first
        | (refine (keyE_ok ?_).symm; rw [keyOk_iff]; omega)
        | (refine (keyE_no ?_).symm; rw [Bool.eq_false_iff]; intro h; rw [keyOk_iff] at h; omega)
  · have HB := Lib.hid hb
    clear hb
    go_enter Try.func65, Try.ntmps65
    go_wp2_with (go_at_call 66; (with_reducible refine (r_outside _ _ _ _).mono ?_); rintro e w1 ⟨rfl, rfl⟩)
    all_goals
      go_returns
      refine Ret.int ?_ (by (repeat' (first | (with_reducible exact Below.refl _ _) | (with_reducible assumption) | (with_reducible refine Below.alloc ?_ ?_ _) | (with_reducible refine Below.drew ?_) | (with_reducible refine Below.setCell ?_ ?_ _) | (refine Below.trans ?_ (Below.mono (by with_reducible assumption) ?_)) | go_size)))
      have hb := HB.out
      simp only [Bool.not_eq_true', Bool.not_eq_false', Bool.not_eq_true, Bool.not_eq_false, Bool.not_not, Bool.and_eq_true, Bool.or_eq_true, Bool.and_eq_false_iff, Bool.or_eq_false_iff, inR_iff, inR_not, decide_eq_true_eq, decide_eq_false_iff_not, beq_iff_eq, bne_iff_ne, beq_eq_false_iff_ne, bne_eq_false_iff_eq, ne_eq] at *
      first
        | (refine (keyE_no ?_).symm; rw [Bool.eq_false_iff]; intro h; rw [keyOk_iff] at h; omega)
        | (exfalso; omega)
theorem u64_sub (a b : Int) (ha : i64 a) (hb : i64 b) (h : b ≤ a) : IntKind.u64.wrap (IntKind.u64.wrap a - IntKind.u64.wrap b) = a - b := by
  obtain ⟨a1, a2⟩ := ha; obtain ⟨b1, b2⟩ := hb
  simp only [IntKind.wrap_u64]; omega
theorem u64_in (a : Int) (h0 : 0 ≤ a) (ha : i64 a) : IntKind.u64.wrap a = a := by
  obtain ⟨a1, a2⟩ := ha
  simp only [IntKind.wrap_u64]; omega
theorem c_keys_Covers (k : Key) (i : Int) (hk : k.Wf) (hi : i64 i) (w : World) :
    Calls Try.prog 64 #[.agg #[.int .i64 k.perm, .int .i64 k.base, .int .i64 k.len, .int .i64 k.pos, .int .i64 k.tag], .int .i64 i] w (Ret (.bool (cov k i)) w) := by
  rcases Int.lt_or_le i k.base with h | h
  · have H := Lib.hid (show cov k i = false by simp [cov]; omega)
    go_enter Try.func64, Try.ntmps64
    go_wp2
    go_returns
    exact Ret.bool H.out.symm (by (repeat' (first | (with_reducible exact Below.refl _ _) | (with_reducible assumption) | (with_reducible refine Below.alloc ?_ ?_ _) | (with_reducible refine Below.drew ?_) | (with_reducible refine Below.setCell ?_ ?_ _) | (refine Below.trans ?_ (Below.mono (by with_reducible assumption) ?_)) | go_size)))
  · have e1 := u64_sub i k.base hi hk.base h
    rcases Int.lt_or_le k.len 0 with hl | hl
    · have H := Lib.hid (show cov k i = false by simp [cov]; omega)
      have e2 : IntKind.u64.wrap 0 = 0 := by decide
      have e3 : decide (i - k.base < 0) = false := by simp; omega
      go_enter Try.func64, Try.ntmps64
      go_wp2
      go_returns
      exact Ret.bool H.out.symm (by (repeat' (first | (with_reducible exact Below.refl _ _) | (with_reducible assumption) | (with_reducible refine Below.alloc ?_ ?_ _) | (with_reducible refine Below.drew ?_) | (with_reducible refine Below.setCell ?_ ?_ _) | (refine Below.trans ?_ (Below.mono (by with_reducible assumption) ?_)) | go_size)))
    · have H := Lib.hid (show decide (i - k.base < k.len) = cov k i by simp [cov]; omega)
      have e2 := u64_in k.len hl hk.len
      go_enter Try.func64, Try.ntmps64
      go_wp2
      go_returns
      exact Ret.bool H.out (by (repeat' (first | (with_reducible exact Below.refl _ _) | (with_reducible assumption) | (with_reducible refine Below.alloc ?_ ?_ _) | (with_reducible refine Below.drew ?_) | (with_reducible refine Below.setCell ?_ ?_ _) | (refine Below.trans ?_ (Below.mono (by with_reducible assumption) ?_)) | go_size)))
theorem r_Covers (k : Key) (i : Int) (hk : k.Wf) (hi : i64 i) (w : World) :
    Calls Try.prog 32 #[.agg #[.int .i64 k.perm, .int .i64 k.base, .int .i64 k.len, .int .i64 k.pos, .int .i64 k.tag], .int .i64 i] w (Ret (.bool (cov k i)) w) := by
  rcases Int.lt_or_le 0 k.len with hl | hl
  · rcases Int.lt_or_le i k.base with h | h
    · have H := Lib.hid (show cov k i = false by simp [cov]; omega)
      go_enter Try.func32, Try.ntmps32
      go_wp2
      go_returns
      exact Ret.bool H.out.symm (by (repeat' (first | (with_reducible exact Below.refl _ _) | (with_reducible assumption) | (with_reducible refine Below.alloc ?_ ?_ _) | (with_reducible refine Below.drew ?_) | (with_reducible refine Below.setCell ?_ ?_ _) | (refine Below.trans ?_ (Below.mono (by with_reducible assumption) ?_)) | go_size)))
    · have e1 := u64_sub i k.base hi hk.base h
      have H := Lib.hid (show decide (i - k.base < k.len) = cov k i by simp [cov]; omega)
      have e2 := u64_in k.len (by omega) hk.len
      go_enter Try.func32, Try.ntmps32
      go_wp2
      go_returns
      exact Ret.bool H.out (by (repeat' (first | (with_reducible exact Below.refl _ _) | (with_reducible assumption) | (with_reducible refine Below.alloc ?_ ?_ _) | (with_reducible refine Below.drew ?_) | (with_reducible refine Below.setCell ?_ ?_ _) | (refine Below.trans ?_ (Below.mono (by with_reducible assumption) ?_)) | go_size)))
  · have H := Lib.hid (show cov k i = false by simp [cov]; omega)
    go_enter Try.func32, Try.ntmps32
    go_wp2
    go_returns
    exact Ret.bool H.out.symm (by (repeat' (first | (with_reducible exact Below.refl _ _) | (with_reducible assumption) | (with_reducible refine Below.alloc ?_ ?_ _) | (with_reducible refine Below.drew ?_) | (with_reducible refine Below.setCell ?_ ?_ _) | (refine Below.trans ?_ (Below.mono (by with_reducible assumption) ?_)) | go_size)))
end Go.Proofs.Ythdlfepakkihnaa
