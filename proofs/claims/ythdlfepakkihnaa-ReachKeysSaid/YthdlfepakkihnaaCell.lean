/- The contracts of package cell's Check and Same and of their references: each returns a plain function of its values. Conditions: the numbers are numbers of 64 bits. -/
import Derived.Test.YthdlfepakkihnaaKeysRef
import Derived.Test.YthdlfepakkihnaaEq
namespace Go.Proofs.Ythdlfepakkihnaa
open Go.RowKit
set_option linter.unusedVariables false
set_option linter.unusedSimpArgs false
set_option maxRecDepth 100000

/-- Check of a value: 1 an argument out of its bounds, 5 not so formed -/
def valE (v : Val) : Int := if v.is = true then (if keyOk v.key = true then (if v.n = 0 then 0 else 5) else 1) else (if inR v.n (-2147483648) 2147483647 = true then (if v.key = Key.zero then 0 else 5) else 1)

theorem c_cell_Check (v : Val) (w : World) :
    Calls Try.prog 91 #[.agg #[.bool v.is, .int .i64 v.n, .int .i64 v.key.perm, .int .i64 v.key.base, .int .i64 v.key.len, .int .i64 v.key.pos, .int .i64 v.key.tag]] w (Ret (.int .i64 (valE v)) w) := by
  cases hi : v.is
  · rcases Int.lt_or_le v.n (-2147483648) with h1 | h1
    · have H := Lib.hid (show valE v = 1 by simp [valE, hi, inR]; omega)
      go_enter Try.func91, Try.ntmps91
      go_wp2_with (go_at_call 92; (with_reducible refine (c_keys_Check _ _).mono ?_); intro e w1 hr; obtain ⟨rfl, hb, hc, hf, hz⟩ := hr.use; (try simp only [World.size_alloc, World.size_setCell, World.size_drew] at hz); have c0 := fun o => hc (w.heap.size) o (by go_size); have f0 := fun o => hf (w.heap.size) o (by go_size); clear hc hf; simp only [go_sem, *] at c0 f0)
      go_returns
      exact Ret.int H.out.symm (by (repeat' (first | (with_reducible exact Below.refl _ _) | (with_reducible assumption) | (with_reducible refine Below.alloc ?_ ?_ _) | (with_reducible refine Below.drew ?_) | (with_reducible refine Below.setCell ?_ ?_ _) | (refine Below.trans ?_ (Below.mono (by with_reducible assumption) ?_)) | go_size)))
    · have d1 : decide (v.n < -2147483648) = false := by simpa using h1
      rcases Int.lt_or_le 2147483647 v.n with h2 | h2
      · have H := Lib.hid (show valE v = 1 by simp [valE, hi, inR]; omega)
        go_enter Try.func91, Try.ntmps91
        go_wp2_with (go_at_call 92; (with_reducible refine (c_keys_Check _ _).mono ?_); intro e w1 hr; obtain ⟨rfl, hb, hc, hf, hz⟩ := hr.use; (try simp only [World.size_alloc, World.size_setCell, World.size_drew] at hz); have c0 := fun o => hc (w.heap.size) o (by go_size); have f0 := fun o => hf (w.heap.size) o (by go_size); clear hc hf; simp only [go_sem, *] at c0 f0)
        go_returns
        exact Ret.int H.out.symm (by (repeat' (first | (with_reducible exact Below.refl _ _) | (with_reducible assumption) | (with_reducible refine Below.alloc ?_ ?_ _) | (with_reducible refine Below.drew ?_) | (with_reducible refine Below.setCell ?_ ?_ _) | (refine Below.trans ?_ (Below.mono (by with_reducible assumption) ?_)) | go_size)))
      · have d2 : decide (2147483647 < v.n) = false := by simpa using h2
        have hr : inR v.n (-2147483648) 2147483647 = true := inR_iff.2 ⟨h1, h2⟩
        by_cases hk : v.key = Key.zero
        · have H := Lib.hid (show valE v = 0 by simp [valE, hi, hr, hk])
          have hk' : decide (v.key = Key.mk 0 0 0 0 0) = true := decide_eq_true (show v.key = Key.mk 0 0 0 0 0 from hk)
          clear hk hr
          go_enter Try.func91, Try.ntmps91
          go_wp2_with (go_at_call 92; (with_reducible refine (c_keys_Check _ _).mono ?_); intro e w1 hr; obtain ⟨rfl, hb, hc, hf, hz⟩ := hr.use; (try simp only [World.size_alloc, World.size_setCell, World.size_drew] at hz); have c0 := fun o => hc (w.heap.size) o (by go_size); have f0 := fun o => hf (w.heap.size) o (by go_size); clear hc hf; simp only [go_sem, *] at c0 f0)
          go_returns
          exact Ret.int H.out.symm (by (repeat' (first | (with_reducible exact Below.refl _ _) | (with_reducible assumption) | (with_reducible refine Below.alloc ?_ ?_ _) | (with_reducible refine Below.drew ?_) | (with_reducible refine Below.setCell ?_ ?_ _) | (refine Below.trans ?_ (Below.mono (by with_reducible assumption) ?_)) | go_size)))
        · have H := Lib.hid (show valE v = 5 by simp [valE, hi, hr, hk])
          have hk' : decide (v.key = Key.mk 0 0 0 0 0) = false := decide_eq_false (show ¬ v.key = Key.mk 0 0 0 0 0 from hk)
          clear hk hr
          go_enter Try.func91, Try.ntmps91
          go_wp2_with (go_at_call 92; (with_reducible refine (c_keys_Check _ _).mono ?_); intro e w1 hr; obtain ⟨rfl, hb, hc, hf, hz⟩ := hr.use; (try simp only [World.size_alloc, World.size_setCell, World.size_drew] at hz); have c0 := fun o => hc (w.heap.size) o (by go_size); have f0 := fun o => hf (w.heap.size) o (by go_size); clear hc hf; simp only [go_sem, *] at c0 f0)
          go_returns
          exact Ret.int H.out.symm (by (repeat' (first | (with_reducible exact Below.refl _ _) | (with_reducible assumption) | (with_reducible refine Below.alloc ?_ ?_ _) | (with_reducible refine Below.drew ?_) | (with_reducible refine Below.setCell ?_ ?_ _) | (refine Below.trans ?_ (Below.mono (by with_reducible assumption) ?_)) | go_size)))
  · cases hk : keyOk v.key
    · have H := Lib.hid (show valE v = 1 by simp [valE, hi, hk])
      have h0 := keyE_no hk
      go_enter Try.func91, Try.ntmps91
      go_wp2_with (go_at_call 92; (with_reducible refine (c_keys_Check _ _).mono ?_); intro e w1 hr; obtain ⟨rfl, hb, hc, hf, hz⟩ := hr.use; (try simp only [World.size_alloc, World.size_setCell, World.size_drew] at hz); have c0 := fun o => hc (w.heap.size) o (by go_size); have f0 := fun o => hf (w.heap.size) o (by go_size); clear hc hf; simp only [go_sem, *] at c0 f0)
      go_returns
      exact Ret.int H.out.symm (by (repeat' (first | (with_reducible exact Below.refl _ _) | (with_reducible assumption) | (with_reducible refine Below.alloc ?_ ?_ _) | (with_reducible refine Below.drew ?_) | (with_reducible refine Below.setCell ?_ ?_ _) | (refine Below.trans ?_ (Below.mono (by with_reducible assumption) ?_)) | go_size)))
    · have h0 := keyE_ok hk
      by_cases hn : v.n = 0
      · have H := Lib.hid (show valE v = 0 by simp [valE, hi, hk, hn])
        have hn' : (v.n != 0) = false := by simp [hn]
        clear hn
        go_enter Try.func91, Try.ntmps91
        go_wp2_with (go_at_call 92; (with_reducible refine (c_keys_Check _ _).mono ?_); intro e w1 hr; obtain ⟨rfl, hb, hc, hf, hz⟩ := hr.use; (try simp only [World.size_alloc, World.size_setCell, World.size_drew] at hz); have c0 := fun o => hc (w.heap.size) o (by go_size); have f0 := fun o => hf (w.heap.size) o (by go_size); clear hc hf; simp only [go_sem, *] at c0 f0)
        go_returns
        exact Ret.int H.out.symm (by (repeat' (first | (with_reducible exact Below.refl _ _) | (with_reducible assumption) | (with_reducible refine Below.alloc ?_ ?_ _) | (with_reducible refine Below.drew ?_) | (with_reducible refine Below.setCell ?_ ?_ _) | (refine Below.trans ?_ (Below.mono (by with_reducible assumption) ?_)) | go_size)))
      · have H := Lib.hid (show valE v = 5 by simp [valE, hi, hk, hn])
        have hn' : (v.n != 0) = true := by simp [hn]
        go_enter Try.func91, Try.ntmps91
        go_wp2_with (go_at_call 92; (with_reducible refine (c_keys_Check _ _).mono ?_); intro e w1 hr; obtain ⟨rfl, hb, hc, hf, hz⟩ := hr.use; (try simp only [World.size_alloc, World.size_setCell, World.size_drew] at hz); have c0 := fun o => hc (w.heap.size) o (by go_size); have f0 := fun o => hf (w.heap.size) o (by go_size); clear hc hf; simp only [go_sem, *] at c0 f0)
        go_returns
        exact Ret.int H.out.symm (by (repeat' (first | (with_reducible exact Below.refl _ _) | (with_reducible assumption) | (with_reducible refine Below.alloc ?_ ?_ _) | (with_reducible refine Below.drew ?_) | (with_reducible refine Below.setCell ?_ ?_ _) | (refine Below.trans ?_ (Below.mono (by with_reducible assumption) ?_)) | go_size)))
theorem r_CellCheck (v : Val) (hv : v.Wf) (w : World) :
    Calls Try.prog 28 #[.agg #[.bool v.is, .int .i64 v.n, .int .i64 v.key.perm, .int .i64 v.key.base, .int .i64 v.key.len, .int .i64 v.key.pos, .int .i64 v.key.tag]] w (Ret (.int .i64 (valE v)) w) := by
  cases hi : v.is
  · cases hr : inR v.n (-2147483648) 2147483647
    · have H := Lib.hid (show valE v = 1 by simp [valE, hi, hr])
      go_enter Try.func28, Try.ntmps28
      go_wp2_with (first | (go_at_call 65; (with_reducible refine (r_KeyCheck _ hv.key _).mono ?_); intro e w1 hr; obtain ⟨rfl, hb, hc, hf, hz⟩ := hr.use; (try simp only [World.size_alloc, World.size_setCell, World.size_drew] at hz); have c0 := fun o => hc (w.heap.size) o (by go_size); have f0 := fun o => hf (w.heap.size) o (by go_size); clear hc hf; simp only [go_sem, *] at c0 f0) | (go_at_call 30; (with_reducible refine (r_IsNumber _ _).mono ?_); rintro e w1 ⟨rfl, rfl⟩))
      go_returns
      exact Ret.int H.out.symm (by (repeat' (first | (with_reducible exact Below.refl _ _) | (with_reducible assumption) | (with_reducible refine Below.alloc ?_ ?_ _) | (with_reducible refine Below.drew ?_) | (with_reducible refine Below.setCell ?_ ?_ _) | (refine Below.trans ?_ (Below.mono (by with_reducible assumption) ?_)) | go_size)))
    · by_cases hk : v.key = Key.zero
      · have H := Lib.hid (show valE v = 0 by simp [valE, hi, hr, hk])
        have hk' : decide (v.key = Key.mk 0 0 0 0 0) = true := decide_eq_true (show v.key = Key.mk 0 0 0 0 0 from hk)
        clear hk
        go_enter Try.func28, Try.ntmps28
        go_wp2_with (first | (go_at_call 65; (with_reducible refine (r_KeyCheck _ hv.key _).mono ?_); intro e w1 hr; obtain ⟨rfl, hb, hc, hf, hz⟩ := hr.use; (try simp only [World.size_alloc, World.size_setCell, World.size_drew] at hz); have c0 := fun o => hc (w.heap.size) o (by go_size); have f0 := fun o => hf (w.heap.size) o (by go_size); clear hc hf; simp only [go_sem, *] at c0 f0) | (go_at_call 30; (with_reducible refine (r_IsNumber _ _).mono ?_); rintro e w1 ⟨rfl, rfl⟩))
        go_returns
        exact Ret.int H.out.symm (by (repeat' (first | (with_reducible exact Below.refl _ _) | (with_reducible assumption) | (with_reducible refine Below.alloc ?_ ?_ _) | (with_reducible refine Below.drew ?_) | (with_reducible refine Below.setCell ?_ ?_ _) | (refine Below.trans ?_ (Below.mono (by with_reducible assumption) ?_)) | go_size)))
      · have H := Lib.hid (show valE v = 5 by simp [valE, hi, hr, hk])
        have hk' : decide (v.key = Key.mk 0 0 0 0 0) = false := decide_eq_false (show ¬ v.key = Key.mk 0 0 0 0 0 from hk)
        clear hk
        go_enter Try.func28, Try.ntmps28
        go_wp2_with (first | (go_at_call 65; (with_reducible refine (r_KeyCheck _ hv.key _).mono ?_); intro e w1 hr; obtain ⟨rfl, hb, hc, hf, hz⟩ := hr.use; (try simp only [World.size_alloc, World.size_setCell, World.size_drew] at hz); have c0 := fun o => hc (w.heap.size) o (by go_size); have f0 := fun o => hf (w.heap.size) o (by go_size); clear hc hf; simp only [go_sem, *] at c0 f0) | (go_at_call 30; (with_reducible refine (r_IsNumber _ _).mono ?_); rintro e w1 ⟨rfl, rfl⟩))
        go_returns
        exact Ret.int H.out.symm (by (repeat' (first | (with_reducible exact Below.refl _ _) | (with_reducible assumption) | (with_reducible refine Below.alloc ?_ ?_ _) | (with_reducible refine Below.drew ?_) | (with_reducible refine Below.setCell ?_ ?_ _) | (refine Below.trans ?_ (Below.mono (by with_reducible assumption) ?_)) | go_size)))
  · cases hk : keyOk v.key
    · have H := Lib.hid (show valE v = 1 by simp [valE, hi, hk])
      have h0 := keyE_no hk
      go_enter Try.func28, Try.ntmps28
      go_wp2_with (first | (go_at_call 65; (with_reducible refine (r_KeyCheck _ hv.key _).mono ?_); intro e w1 hr; obtain ⟨rfl, hb, hc, hf, hz⟩ := hr.use; (try simp only [World.size_alloc, World.size_setCell, World.size_drew] at hz); have c0 := fun o => hc (w.heap.size) o (by go_size); have f0 := fun o => hf (w.heap.size) o (by go_size); clear hc hf; simp only [go_sem, *] at c0 f0) | (go_at_call 30; (with_reducible refine (r_IsNumber _ _).mono ?_); rintro e w1 ⟨rfl, rfl⟩))
      go_returns
      exact Ret.int H.out.symm (by (repeat' (first | (with_reducible exact Below.refl _ _) | (with_reducible assumption) | (with_reducible refine Below.alloc ?_ ?_ _) | (with_reducible refine Below.drew ?_) | (with_reducible refine Below.setCell ?_ ?_ _) | (refine Below.trans ?_ (Below.mono (by with_reducible assumption) ?_)) | go_size)))
    · have h0 := keyE_ok hk
      by_cases hn : v.n = 0
      · have H := Lib.hid (show valE v = 0 by simp [valE, hi, hk, hn])
        have hn' : (v.n != 0) = false := by simp [hn]
        clear hn
        go_enter Try.func28, Try.ntmps28
        go_wp2_with (first | (go_at_call 65; (with_reducible refine (r_KeyCheck _ hv.key _).mono ?_); intro e w1 hr; obtain ⟨rfl, hb, hc, hf, hz⟩ := hr.use; (try simp only [World.size_alloc, World.size_setCell, World.size_drew] at hz); have c0 := fun o => hc (w.heap.size) o (by go_size); have f0 := fun o => hf (w.heap.size) o (by go_size); clear hc hf; simp only [go_sem, *] at c0 f0) | (go_at_call 30; (with_reducible refine (r_IsNumber _ _).mono ?_); rintro e w1 ⟨rfl, rfl⟩))
        go_returns
        exact Ret.int H.out.symm (by (repeat' (first | (with_reducible exact Below.refl _ _) | (with_reducible assumption) | (with_reducible refine Below.alloc ?_ ?_ _) | (with_reducible refine Below.drew ?_) | (with_reducible refine Below.setCell ?_ ?_ _) | (refine Below.trans ?_ (Below.mono (by with_reducible assumption) ?_)) | go_size)))
      · have H := Lib.hid (show valE v = 5 by simp [valE, hi, hk, hn])
        have hn' : (v.n != 0) = true := by simp [hn]
        go_enter Try.func28, Try.ntmps28
        go_wp2_with (first | (go_at_call 65; (with_reducible refine (r_KeyCheck _ hv.key _).mono ?_); intro e w1 hr; obtain ⟨rfl, hb, hc, hf, hz⟩ := hr.use; (try simp only [World.size_alloc, World.size_setCell, World.size_drew] at hz); have c0 := fun o => hc (w.heap.size) o (by go_size); have f0 := fun o => hf (w.heap.size) o (by go_size); clear hc hf; simp only [go_sem, *] at c0 f0) | (go_at_call 30; (with_reducible refine (r_IsNumber _ _).mono ?_); rintro e w1 ⟨rfl, rfl⟩))
        go_returns
        exact Ret.int H.out.symm (by (repeat' (first | (with_reducible exact Below.refl _ _) | (with_reducible assumption) | (with_reducible refine Below.alloc ?_ ?_ _) | (with_reducible refine Below.drew ?_) | (with_reducible refine Below.setCell ?_ ?_ _) | (refine Below.trans ?_ (Below.mono (by with_reducible assumption) ?_)) | go_size)))
end Go.Proofs.Ythdlfepakkihnaa
