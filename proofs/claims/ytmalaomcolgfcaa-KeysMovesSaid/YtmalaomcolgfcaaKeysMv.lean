/- The reference's KeyOp at Move and Narrow: it returns the same plain functions. Conditions: the numbers are numbers of 64 bits. -/
import Derived.Test.YtmalaomcolgfcaaKeysRef
namespace Go.Proofs.Ytmalaomcolgfcaa
open Go.RowKit
set_option linter.unusedVariables false
set_option linter.unusedSimpArgs false
set_option maxHeartbeats 4000000 in
theorem r_KeyOp_move (k : Key) (n : Int) (hk : k.Wf) (hn : i64 n) (w : World) :
    Calls Try.prog 25 #[.agg #[.int .i64 k.perm, .int .i64 k.base, .int .i64 k.len, .int .i64 k.pos, .int .i64 k.tag], .int .i64 n, .int .i64 0] w (Ret (.tuple #[.agg #[.int .i64 (keyMove k n).1.perm, .int .i64 (keyMove k n).1.base, .int .i64 (keyMove k n).1.len, .int .i64 (keyMove k n).1.pos, .int .i64 (keyMove k n).1.tag], .int .i64 (keyMove k n).2]) w) := by
  by_cases hp : plainE k = 0
  · obtain ⟨ho, ht⟩ := plainE_zero.1 hp
    obtain ⟨⟨b1, b2⟩, ⟨l1, l2⟩, ⟨p1, p2⟩, ⟨a1, a2⟩, ⟨t1, t2⟩⟩ := keyOk_iff.1 ho
    have h0 := keyE_ok ho
    have ht' : k.tag ≤ 0 := by omega
    have HT := Lib.hid ht
    cases g1 : inR n (-400) 400
    · have H := Lib.hid (show keyMove k n = (Key.zero, 13) by
        have : inR n (-k.pos) (400 - k.pos) = false := by
          rw [Bool.eq_false_iff]; intro h; rw [inR_iff] at h
          rw [inR_iff.2 (by omega)] at g1; cases g1
        simp [keyMove, hp, this])
      clear hp ht
      go_enter Try.func25, Try.ntmps25
      go_wp2_with (first | (go_at_call 55; (with_reducible refine (r_KeyCheck _ hk _).mono ?_); intro e w1 hr; obtain ⟨rfl, hb, hc, hf, hz⟩ := hr.use; (try simp only [World.size_alloc, World.size_setCell, World.size_drew] at hz); have c0 := fun o => hc (w.heap.size) o (by go_size); have f0 := fun o => hf (w.heap.size) o (by go_size); have c1 := fun o => hc (w.heap.size + 1) o (by go_size); have f1 := fun o => hf (w.heap.size + 1) o (by go_size); clear hc hf; simp only [go_sem, *] at c0 f0 c1 f1) | (go_at_call 56; (with_reducible refine (r_outside _ _ _ _).mono ?_); rintro e w1 ⟨rfl, rfl⟩))
      ((try simp only [Exit.inBlock, Exit.then]); refine bodyPost_ret (by simp [results, Try.results25, go_sem, *]; try rfl) rfl ?_)
      exact Ret.key (q := (⟨_, _, _, _, _⟩, _)) H.out.symm (by (repeat' (first | (with_reducible exact Below.refl _ _) | (with_reducible assumption) | (with_reducible refine Below.alloc ?_ ?_ _) | (with_reducible refine Below.drew ?_) | (with_reducible refine Below.setCell ?_ ?_ _) | (refine Below.trans ?_ (Below.mono (by with_reducible assumption) ?_)) | go_size)))
    · have i1 := inR_iff.1 g1
      cases g2 : inR (k.pos + n) 0 400
      · have H := Lib.hid (show keyMove k n = (Key.zero, 13) by
          have : inR n (-k.pos) (400 - k.pos) = false := by
            rw [Bool.eq_false_iff]; intro h; rw [inR_iff] at h
            rw [inR_iff.2 (by omega)] at g2; cases g2
          simp [keyMove, hp, this])
        clear hp ht
        go_enter Try.func25, Try.ntmps25
        go_wp2_with (first | (go_at_call 55; (with_reducible refine (r_KeyCheck _ hk _).mono ?_); intro e w1 hr; obtain ⟨rfl, hb, hc, hf, hz⟩ := hr.use; (try simp only [World.size_alloc, World.size_setCell, World.size_drew] at hz); have c0 := fun o => hc (w.heap.size) o (by go_size); have f0 := fun o => hf (w.heap.size) o (by go_size); have c1 := fun o => hc (w.heap.size + 1) o (by go_size); have f1 := fun o => hf (w.heap.size + 1) o (by go_size); clear hc hf; simp only [go_sem, *] at c0 f0 c1 f1) | (go_at_call 56; (with_reducible refine (r_outside _ _ _ _).mono ?_); rintro e w1 ⟨rfl, rfl⟩))
        ((try simp only [Exit.inBlock, Exit.then]); refine bodyPost_ret (by simp [results, Try.results25, go_sem, *]; try rfl) rfl ?_)
        exact Ret.key (q := (⟨_, _, _, _, _⟩, _)) H.out.symm (by (repeat' (first | (with_reducible exact Below.refl _ _) | (with_reducible assumption) | (with_reducible refine Below.alloc ?_ ?_ _) | (with_reducible refine Below.drew ?_) | (with_reducible refine Below.setCell ?_ ?_ _) | (refine Below.trans ?_ (Below.mono (by with_reducible assumption) ?_)) | go_size)))
      · have i2 := inR_iff.1 g2
        have H := Lib.hid (show keyMove k n = (⟨k.perm, k.base, k.len, k.pos + n, 0⟩, 0) by
          have : inR n (-k.pos) (400 - k.pos) = true := inR_iff.2 (by omega)
          simp [keyMove, hp, this, ht])
        clear hp ht
        go_enter Try.func25, Try.ntmps25
        go_wp2_with (first | (go_at_call 55; (with_reducible refine (r_KeyCheck _ hk _).mono ?_); intro e w1 hr; obtain ⟨rfl, hb, hc, hf, hz⟩ := hr.use; (try simp only [World.size_alloc, World.size_setCell, World.size_drew] at hz); have c0 := fun o => hc (w.heap.size) o (by go_size); have f0 := fun o => hf (w.heap.size) o (by go_size); have c1 := fun o => hc (w.heap.size + 1) o (by go_size); have f1 := fun o => hf (w.heap.size + 1) o (by go_size); clear hc hf; simp only [go_sem, *] at c0 f0 c1 f1) | (go_at_call 56; (with_reducible refine (r_outside _ _ _ _).mono ?_); rintro e w1 ⟨rfl, rfl⟩))
        ((try simp only [Exit.inBlock, Exit.then]); refine bodyPost_ret (by simp [results, Try.results25, go_sem, *]; try rfl) rfl ?_)
        exact Ret.key (q := (⟨_, _, _, _, _⟩, _)) H.out.symm (by (repeat' (first | (with_reducible exact Below.refl _ _) | (with_reducible assumption) | (with_reducible refine Below.alloc ?_ ?_ _) | (with_reducible refine Below.drew ?_) | (with_reducible refine Below.setCell ?_ ?_ _) | (refine Below.trans ?_ (Below.mono (by with_reducible assumption) ?_)) | go_size)))
  · have h := r_KeyOp_no k n 0 hk (by omega) hp w
    exact h
set_option maxHeartbeats 4000000 in
theorem r_KeyOp_narrow (k : Key) (n : Int) (hk : k.Wf) (hn : i64 n) (w : World) :
    Calls Try.prog 25 #[.agg #[.int .i64 k.perm, .int .i64 k.base, .int .i64 k.len, .int .i64 k.pos, .int .i64 k.tag], .int .i64 n, .int .i64 1] w (Ret (.tuple #[.agg #[.int .i64 (keyNarrow k n).1.perm, .int .i64 (keyNarrow k n).1.base, .int .i64 (keyNarrow k n).1.len, .int .i64 (keyNarrow k n).1.pos, .int .i64 (keyNarrow k n).1.tag], .int .i64 (keyNarrow k n).2]) w) := by
  by_cases hp : plainE k = 0
  · obtain ⟨ho, ht⟩ := plainE_zero.1 hp
    obtain ⟨⟨b1, b2⟩, ⟨l1, l2⟩, ⟨p1, p2⟩, ⟨a1, a2⟩, ⟨t1, t2⟩⟩ := keyOk_iff.1 ho
    have h0 := keyE_ok ho
    have ht' : k.tag ≤ 0 := by omega
    have no : ¬(k.base ≤ k.pos ∧ 0 ≤ n ∧ n ≤ k.base + k.len - k.pos) → keyNarrow k n = (Key.zero, 13) := fun h => by
      have : ¬(k.base ≤ k.pos ∧ inR n 0 (k.base + k.len - k.pos) = true) := by rw [inR_iff]; exact h
      simp only [keyNarrow, hp, if_true, if_neg this]
    have NO := Lib.hid no
    have yes : (k.base ≤ k.pos ∧ 0 ≤ n ∧ n ≤ k.base + k.len - k.pos) → keyNarrow k n = (⟨k.perm, k.pos, n, k.pos, 0⟩, 0) := fun h => by
      have : (k.base ≤ k.pos ∧ inR n 0 (k.base + k.len - k.pos) = true) := by rw [inR_iff]; exact h
      simp only [keyNarrow, hp, if_true, if_pos this, ht]
    have YES := Lib.hid yes
    clear hp ht no yes
    rcases Int.lt_or_le n 0 with g1 | g1
    · have H := Lib.hid (NO.out (by omega))
      go_enter Try.func25, Try.ntmps25
      go_wp2_with (first | (go_at_call 55; (with_reducible refine (r_KeyCheck _ hk _).mono ?_); intro e w1 hr; obtain ⟨rfl, hb, hc, hf, hz⟩ := hr.use; (try simp only [World.size_alloc, World.size_setCell, World.size_drew] at hz); have c0 := fun o => hc (w.heap.size) o (by go_size); have f0 := fun o => hf (w.heap.size) o (by go_size); have c1 := fun o => hc (w.heap.size + 1) o (by go_size); have f1 := fun o => hf (w.heap.size + 1) o (by go_size); clear hc hf; simp only [go_sem, *] at c0 f0 c1 f1) | (go_at_call 56; (with_reducible refine (r_outside _ _ _ _).mono ?_); rintro e w1 ⟨rfl, rfl⟩))
      ((try simp only [Exit.inBlock, Exit.then]); refine bodyPost_ret (by simp [results, Try.results25, go_sem, *]; try rfl) rfl ?_)
      exact Ret.key (q := (⟨_, _, _, _, _⟩, _)) H.out.symm (by (repeat' (first | (with_reducible exact Below.refl _ _) | (with_reducible assumption) | (with_reducible refine Below.alloc ?_ ?_ _) | (with_reducible refine Below.drew ?_) | (with_reducible refine Below.setCell ?_ ?_ _) | (refine Below.trans ?_ (Below.mono (by with_reducible assumption) ?_)) | go_size)))
    rcases Int.lt_or_le 400 n with g2 | g2
    · have H := Lib.hid (NO.out (by omega))
      go_enter Try.func25, Try.ntmps25
      go_wp2_with (first | (go_at_call 55; (with_reducible refine (r_KeyCheck _ hk _).mono ?_); intro e w1 hr; obtain ⟨rfl, hb, hc, hf, hz⟩ := hr.use; (try simp only [World.size_alloc, World.size_setCell, World.size_drew] at hz); have c0 := fun o => hc (w.heap.size) o (by go_size); have f0 := fun o => hf (w.heap.size) o (by go_size); have c1 := fun o => hc (w.heap.size + 1) o (by go_size); have f1 := fun o => hf (w.heap.size + 1) o (by go_size); clear hc hf; simp only [go_sem, *] at c0 f0 c1 f1) | (go_at_call 56; (with_reducible refine (r_outside _ _ _ _).mono ?_); rintro e w1 ⟨rfl, rfl⟩))
      ((try simp only [Exit.inBlock, Exit.then]); refine bodyPost_ret (by simp [results, Try.results25, go_sem, *]; try rfl) rfl ?_)
      exact Ret.key (q := (⟨_, _, _, _, _⟩, _)) H.out.symm (by (repeat' (first | (with_reducible exact Below.refl _ _) | (with_reducible assumption) | (with_reducible refine Below.alloc ?_ ?_ _) | (with_reducible refine Below.drew ?_) | (with_reducible refine Below.setCell ?_ ?_ _) | (refine Below.trans ?_ (Below.mono (by with_reducible assumption) ?_)) | go_size)))
    rcases Int.lt_or_le k.pos k.base with g3 | g3
    · have H := Lib.hid (NO.out (by omega))
      go_enter Try.func25, Try.ntmps25
      go_wp2_with (first | (go_at_call 55; (with_reducible refine (r_KeyCheck _ hk _).mono ?_); intro e w1 hr; obtain ⟨rfl, hb, hc, hf, hz⟩ := hr.use; (try simp only [World.size_alloc, World.size_setCell, World.size_drew] at hz); have c0 := fun o => hc (w.heap.size) o (by go_size); have f0 := fun o => hf (w.heap.size) o (by go_size); have c1 := fun o => hc (w.heap.size + 1) o (by go_size); have f1 := fun o => hf (w.heap.size + 1) o (by go_size); clear hc hf; simp only [go_sem, *] at c0 f0 c1 f1) | (go_at_call 56; (with_reducible refine (r_outside _ _ _ _).mono ?_); rintro e w1 ⟨rfl, rfl⟩))
      ((try simp only [Exit.inBlock, Exit.then]); refine bodyPost_ret (by simp [results, Try.results25, go_sem, *]; try rfl) rfl ?_)
      exact Ret.key (q := (⟨_, _, _, _, _⟩, _)) H.out.symm (by (repeat' (first | (with_reducible exact Below.refl _ _) | (with_reducible assumption) | (with_reducible refine Below.alloc ?_ ?_ _) | (with_reducible refine Below.drew ?_) | (with_reducible refine Below.setCell ?_ ?_ _) | (refine Below.trans ?_ (Below.mono (by with_reducible assumption) ?_)) | go_size)))
    rcases Int.lt_or_le (k.base + k.len) (k.pos + n) with g4 | g4
    · have H := Lib.hid (NO.out (by omega))
      go_enter Try.func25, Try.ntmps25
      go_wp2_with (first | (go_at_call 55; (with_reducible refine (r_KeyCheck _ hk _).mono ?_); intro e w1 hr; obtain ⟨rfl, hb, hc, hf, hz⟩ := hr.use; (try simp only [World.size_alloc, World.size_setCell, World.size_drew] at hz); have c0 := fun o => hc (w.heap.size) o (by go_size); have f0 := fun o => hf (w.heap.size) o (by go_size); have c1 := fun o => hc (w.heap.size + 1) o (by go_size); have f1 := fun o => hf (w.heap.size + 1) o (by go_size); clear hc hf; simp only [go_sem, *] at c0 f0 c1 f1) | (go_at_call 56; (with_reducible refine (r_outside _ _ _ _).mono ?_); rintro e w1 ⟨rfl, rfl⟩))
      ((try simp only [Exit.inBlock, Exit.then]); refine bodyPost_ret (by simp [results, Try.results25, go_sem, *]; try rfl) rfl ?_)
      exact Ret.key (q := (⟨_, _, _, _, _⟩, _)) H.out.symm (by (repeat' (first | (with_reducible exact Below.refl _ _) | (with_reducible assumption) | (with_reducible refine Below.alloc ?_ ?_ _) | (with_reducible refine Below.drew ?_) | (with_reducible refine Below.setCell ?_ ?_ _) | (refine Below.trans ?_ (Below.mono (by with_reducible assumption) ?_)) | go_size)))
    · have H := Lib.hid (YES.out (by omega))
      go_enter Try.func25, Try.ntmps25
      go_wp2_with (first | (go_at_call 55; (with_reducible refine (r_KeyCheck _ hk _).mono ?_); intro e w1 hr; obtain ⟨rfl, hb, hc, hf, hz⟩ := hr.use; (try simp only [World.size_alloc, World.size_setCell, World.size_drew] at hz); have c0 := fun o => hc (w.heap.size) o (by go_size); have f0 := fun o => hf (w.heap.size) o (by go_size); have c1 := fun o => hc (w.heap.size + 1) o (by go_size); have f1 := fun o => hf (w.heap.size + 1) o (by go_size); clear hc hf; simp only [go_sem, *] at c0 f0 c1 f1) | (go_at_call 56; (with_reducible refine (r_outside _ _ _ _).mono ?_); rintro e w1 ⟨rfl, rfl⟩))
      ((try simp only [Exit.inBlock, Exit.then]); refine bodyPost_ret (by simp [results, Try.results25, go_sem, *]; try rfl) rfl ?_)
      exact Ret.key (q := (⟨_, _, _, _, _⟩, _)) H.out.symm (by (repeat' (first | (with_reducible exact Below.refl _ _) | (with_reducible assumption) | (with_reducible refine Below.alloc ?_ ?_ _) | (with_reducible refine Below.drew ?_) | (with_reducible refine Below.setCell ?_ ?_ _) | (refine Below.trans ?_ (Below.mono (by with_reducible assumption) ?_)) | go_size)))
  · have h := r_KeyOp_no k n 1 hk (by omega) hp w
    exact h
end Go.Proofs.Ytmalaomcolgfcaa
