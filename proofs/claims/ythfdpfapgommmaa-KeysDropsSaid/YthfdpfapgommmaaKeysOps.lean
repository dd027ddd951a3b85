/- The contracts of the operations of package keys: each returns a plain function of its keys, and the memory that was there is as it was. Conditions: the numbers of a key are numbers of 64 bits. -/
import Derived.Test.YthfdpfapgommmaaKeys
namespace Go.Proofs.Ythfdpfapgommmaa
open Go.RowKit
set_option linter.unusedVariables false
set_option linter.unusedSimpArgs false

theorem c_keys_plain (k : Key) (w : World) :
    Calls Try.prog 53 #[.agg #[.int .i64 k.perm, .int .i64 k.base, .int .i64 k.len, .int .i64 k.pos, .int .i64 k.tag]] w (Ret (.int .i64 (plainE k)) w) := by
  cases hk : keyOk k
  · have H := Lib.hid (show plainE k = 1 by simp [plainE, hk])
    have h0 := keyE_no hk
    go_enter Try.func53, Try.ntmps53
    go_wp2_with (go_at_call 29; (with_reducible refine (c_keys_Check _ _).mono ?_); intro e w1 hr; obtain ⟨rfl, hb, hc, hf, hz⟩ := hr.use; (try simp only [World.size_alloc, World.size_setCell, World.size_drew] at hz); have c0 := fun o => hc (w.heap.size) o (by go_size); have f0 := fun o => hf (w.heap.size) o (by go_size); clear hc hf; simp only [go_sem, *] at c0 f0)
    go_returns
    exact Ret.int H.out.symm (by (repeat' (first | (with_reducible exact Below.refl _ _) | (with_reducible assumption) | (with_reducible refine Below.alloc ?_ ?_ _) | (with_reducible refine Below.drew ?_) | (with_reducible refine Below.setCell ?_ ?_ _) | (refine Below.trans ?_ (Below.mono (by with_reducible assumption) ?_)) | go_size)))
  · have h0 := keyE_ok hk
    by_cases ht : k.tag = 0
    · have H := Lib.hid (show plainE k = 0 by simp [plainE, hk, ht])
      have ht' : (k.tag != 0) = false := by simp [ht]
      clear ht
      go_enter Try.func53, Try.ntmps53
      go_wp2_with (go_at_call 29; (with_reducible refine (c_keys_Check _ _).mono ?_); intro e w1 hr; obtain ⟨rfl, hb, hc, hf, hz⟩ := hr.use; (try simp only [World.size_alloc, World.size_setCell, World.size_drew] at hz); have c0 := fun o => hc (w.heap.size) o (by go_size); have f0 := fun o => hf (w.heap.size) o (by go_size); clear hc hf; simp only [go_sem, *] at c0 f0)
      go_returns
      exact Ret.int H.out.symm (by (repeat' (first | (with_reducible exact Below.refl _ _) | (with_reducible assumption) | (with_reducible refine Below.alloc ?_ ?_ _) | (with_reducible refine Below.drew ?_) | (with_reducible refine Below.setCell ?_ ?_ _) | (refine Below.trans ?_ (Below.mono (by with_reducible assumption) ?_)) | go_size)))
    · have H := Lib.hid (show plainE k = 11 by simp [plainE, hk, ht])
      have ht' : (k.tag != 0) = true := by simp [ht]
      go_enter Try.func53, Try.ntmps53
      go_wp2_with (go_at_call 29; (with_reducible refine (c_keys_Check _ _).mono ?_); intro e w1 hr; obtain ⟨rfl, hb, hc, hf, hz⟩ := hr.use; (try simp only [World.size_alloc, World.size_setCell, World.size_drew] at hz); have c0 := fun o => hc (w.heap.size) o (by go_size); have f0 := fun o => hf (w.heap.size) o (by go_size); clear hc hf; simp only [go_sem, *] at c0 f0)
      go_returns
      exact Ret.int H.out.symm (by (repeat' (first | (with_reducible exact Below.refl _ _) | (with_reducible assumption) | (with_reducible refine Below.alloc ?_ ?_ _) | (with_reducible refine Below.drew ?_) | (with_reducible refine Below.setCell ?_ ?_ _) | (refine Below.trans ?_ (Below.mono (by with_reducible assumption) ?_)) | go_size)))
theorem c_keys_Drop (k : Key) (p : Int) (w : World) :
    Calls Try.prog 37 #[.agg #[.int .i64 k.perm, .int .i64 k.base, .int .i64 k.len, .int .i64 k.pos, .int .i64 k.tag], .int .i64 p] w (Ret (.tuple #[.agg #[.int .i64 (keyDrop k p).1.perm, .int .i64 (keyDrop k p).1.base, .int .i64 (keyDrop k p).1.len, .int .i64 (keyDrop k p).1.pos, .int .i64 (keyDrop k p).1.tag], .int .i64 (keyDrop k p).2]) w) := by
  by_cases hp : plainE k = 0
  · have H := Lib.hid (show keyDrop k p = ({ k with perm := bits .and .i64 k.perm p }, 0) by simp [keyDrop, hp])
    have h0 : (plainE k != 0) = false := by simp [hp]
    clear hp
    go_enter Try.func37, Try.ntmps37
    go_wp2_with (go_at_call 53; (with_reducible refine (c_keys_plain _ _).mono ?_); intro e w1 hr; obtain ⟨rfl, hb, hc, hf, hz⟩ := hr.use; (try simp only [World.size_alloc, World.size_setCell, World.size_drew] at hz); have c0 := fun o => hc (w.heap.size) o (by go_size); have f0 := fun o => hf (w.heap.size) o (by go_size); have c1 := fun o => hc (w.heap.size + 1) o (by go_size); have f1 := fun o => hf (w.heap.size + 1) o (by go_size); clear hc hf; simp only [go_sem, *] at c0 f0 c1 f1)
    ((try simp only [Exit.inBlock, Exit.then]); refine bodyPost_ret (by simp [results, Try.results37, go_sem, *]; try rfl) rfl ?_)
    exact Ret.key (q := (⟨_, _, _, _, _⟩, _)) H.out.symm (by (repeat' (first | (with_reducible exact Below.refl _ _) | (with_reducible assumption) | (with_reducible refine Below.alloc ?_ ?_ _) | (with_reducible refine Below.drew ?_) | (with_reducible refine Below.setCell ?_ ?_ _) | (refine Below.trans ?_ (Below.mono (by with_reducible assumption) ?_)) | go_size)))
  · have H := Lib.hid (show keyDrop k p = (Key.zero, plainE k) by simp [keyDrop, hp])
    have h0 : (plainE k != 0) = true := by simp [hp]
    clear hp
    go_enter Try.func37, Try.ntmps37
    go_wp2_with (go_at_call 53; (with_reducible refine (c_keys_plain _ _).mono ?_); intro e w1 hr; obtain ⟨rfl, hb, hc, hf, hz⟩ := hr.use; (try simp only [World.size_alloc, World.size_setCell, World.size_drew] at hz); have c0 := fun o => hc (w.heap.size) o (by go_size); have f0 := fun o => hf (w.heap.size) o (by go_size); have c1 := fun o => hc (w.heap.size + 1) o (by go_size); have f1 := fun o => hf (w.heap.size + 1) o (by go_size); clear hc hf; simp only [go_sem, *] at c0 f0 c1 f1)
    ((try simp only [Exit.inBlock, Exit.then]); refine bodyPost_ret (by simp [results, Try.results37, go_sem, *]; try rfl) rfl ?_)
    exact Ret.key (q := (⟨_, _, _, _, _⟩, _)) H.out.symm (by (repeat' (first | (with_reducible exact Below.refl _ _) | (with_reducible assumption) | (with_reducible refine Below.alloc ?_ ?_ _) | (with_reducible refine Below.drew ?_) | (with_reducible refine Below.setCell ?_ ?_ _) | (refine Below.trans ?_ (Below.mono (by with_reducible assumption) ?_)) | go_size)))
end Go.Proofs.Ythfdpfapgommmaa
