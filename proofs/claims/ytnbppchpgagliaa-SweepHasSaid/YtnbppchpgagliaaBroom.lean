/- The broom's strokes, in memory. Conditions: none. -/
import Derived.Test.YtnbppchpgagliaaSweep
namespace Go.Proofs.Ytnbppchpgagliaa
open Go.RowKit
set_option linter.unusedVariables false
set_option linter.unusedSimpArgs false
set_option maxRecDepth 100000

/-- bounds of a key's numbers -/
structure KeyB (k : Key) : Prop where
  b0 : 0 ≤ k.base
  b1 : k.base ≤ 400
  l0 : 0 ≤ k.len
  l1 : k.len ≤ 400
theorem KeyB.of {k : Key} (h : keyOk k = true) : KeyB k := by
  have := keyOk_iff.1 h
  exact ⟨by omega, by omega, by omega, by omega⟩
set_option maxHeartbeats 1000000 in
theorem c_broom_hits (bb : Nat) (base n : Int) (k : Key) (w : World) (hlt : bb < w.heap.size) (b0 : w.cell? ⟨bb, 0, none⟩ = some (.int .i64 base)) (b1 : w.cell? ⟨bb, 1, none⟩ = some (.int .i64 n))
    (hk : KeyB k) (h1 : 0 ≤ base) (h2 : base ≤ 400) (h3 : 0 ≤ n) (h4 : n ≤ 400) :
    Calls Try.prog 94 #[.pointer (some ⟨bb, 0, none⟩), .agg #[.int .i64 k.perm, .int .i64 k.base, .int .i64 k.len, .int .i64 k.pos, .int .i64 k.tag]] w (Ret (.bool (hitK base n k)) w) := by
  obtain ⟨k1, k2, k3, k4⟩ := hk
  have E1 := Lib.hid (show IntKind.i64.wrap (base + n) = base + n from IntWalk.i64_in _ (by omega))
  have E2 := Lib.hid (show IntKind.i64.wrap (k.base + k.len) = k.base + k.len from IntWalk.i64_in _ (by omega))
  by_cases c1 : 0 < k.len
  · have d1 : decide (k.len > 0) = true := by simpa using c1
    by_cases c2 : 0 < n
    · have d2 : decide (n > 0) = true := by simpa using c2
      by_cases c3 : k.base < base + n
      · have d3 : decide (k.base < base + n) = true := by simpa using c3
        have H := Lib.hid (show hitK base n k = decide (base < k.base + k.len) by simp [hitK, c1, c2, c3])
        go_enter Try.func94, Try.ntmps94
        go_wp2_with fail
        (refine wp_region_kept (w0 := w) (bs := [#[.int .i64 k.perm, .int .i64 k.base, .int .i64 k.len, .int .i64 k.pos, .int .i64 k.tag]]) (by kernel_rfl) (by kernel_rfl) (Kept.mk1 (by (repeat' (first | (with_reducible exact Below.refl _ _) | (with_reducible assumption) | (with_reducible refine Below.alloc ?_ ?_ _) | (with_reducible refine Below.drew ?_) | (with_reducible refine Below.setCell ?_ ?_ _) | (refine Below.trans ?_ (Below.mono (by with_reducible assumption) ?_)) | go_size))) (by go_size) (fun o => by simp [go_sem, *]) (fun o => by simp [go_sem, *])) ?_; (repeat (first | go_big_quiet_skip | (go_big_quiet_want; first | (refine BigFrame.quiet_move _ rfl ?_; (simp only [Act.put, Act.eval, Array.getD_eq_getD_getElem?, List.getElem?_toArray, List.getElem?_cons_zero, List.getElem?_cons_succ, Option.getD_some, List.setIfInBounds_toArray, List.set_cons_zero, List.set_cons_succ]); go_big_quiet_on) | (refine BigFrame.quiet_assign _ rfl ?_; (simp only [Act.put, Act.eval, Array.getD_eq_getD_getElem?, List.getElem?_toArray, List.getElem?_cons_zero, List.getElem?_cons_succ, Option.getD_some, List.setIfInBounds_toArray, List.set_cons_zero, List.set_cons_succ]); go_big_quiet_on) | (apply quiet_call; (focus (intro W; go_simp; constructor <;> with_reducible rfl)); (focus (intro W hW; first | fail)); (simp only [Act.put, Act.eval, Array.getD_eq_getD_getElem?, List.getElem?_toArray, List.getElem?_cons_zero, List.getElem?_cons_succ, Option.getD_some, List.setIfInBounds_toArray, List.set_cons_zero, List.set_cons_succ]); go_big_quiet_on) | (apply quiet_run; (focus (intro W hW; obtain ⟨hB, hS, hC, hF⟩ := hW; have c0 := hC 0 _ rfl; have f0 := hF 0 _ rfl; clear hC hF; (try simp only [Nat.add_zero] at c0 f0); (try simp only [List.length_cons, List.length_nil] at hS); have s0 := (hB.cell (p := ⟨bb, 0, none⟩) hlt).trans b0; have s1 := (hB.cell (p := ⟨bb, 1, none⟩) hlt).trans b1; have e1 := E1.out; have e2 := E2.out; go_simp; first | done | with_reducible rfl)); (simp only [Act.put, Act.eval, Array.getD_eq_getD_getElem?, List.getElem?_toArray, List.getElem?_cons_zero, List.getElem?_cons_succ, Option.getD_some, List.setIfInBounds_toArray, List.set_cons_zero, List.set_cons_succ]); go_big_quiet_on)))); refine wpQuiet_nil ?_; intro w2 hW; obtain ⟨hB, hS, hC, hF⟩ := hW; have c0 := hC 0 _ rfl; have f0 := hF 0 _ rfl; clear hC hF; (try simp only [Nat.add_zero] at c0 f0); (try simp only [List.length_cons, List.length_nil] at hS); have s0 := (hB.cell (p := ⟨bb, 0, none⟩) hlt).trans b0; have s1 := (hB.cell (p := ⟨bb, 1, none⟩) hlt).trans b1; have e1 := E1.out; have e2 := E2.out)
        clear e1 e2
        go_wp2_with fail
        go_returns
        exact Ret.bool (by rw [H.out]; try simp) (by (repeat' (first | (with_reducible exact Below.refl _ _) | (with_reducible assumption) | (with_reducible refine Below.alloc ?_ ?_ _) | (with_reducible refine Below.drew ?_) | (with_reducible refine Below.setCell ?_ ?_ _) | (refine Below.trans ?_ (Below.mono (by with_reducible assumption) ?_)) | go_size)))
      · have d3 : decide (k.base < base + n) = false := by simpa using c3
        have H := Lib.hid (show hitK base n k = false by simp [hitK, c1, c2, c3])
        go_enter Try.func94, Try.ntmps94
        go_wp2_with fail
        (refine wp_region_kept (w0 := w) (bs := [#[.int .i64 k.perm, .int .i64 k.base, .int .i64 k.len, .int .i64 k.pos, .int .i64 k.tag]]) (by kernel_rfl) (by kernel_rfl) (Kept.mk1 (by (repeat' (first | (with_reducible exact Below.refl _ _) | (with_reducible assumption) | (with_reducible refine Below.alloc ?_ ?_ _) | (with_reducible refine Below.drew ?_) | (with_reducible refine Below.setCell ?_ ?_ _) | (refine Below.trans ?_ (Below.mono (by with_reducible assumption) ?_)) | go_size))) (by go_size) (fun o => by simp [go_sem, *]) (fun o => by simp [go_sem, *])) ?_; (repeat (first | go_big_quiet_skip | (go_big_quiet_want; first | (refine BigFrame.quiet_move _ rfl ?_; (simp only [Act.put, Act.eval, Array.getD_eq_getD_getElem?, List.getElem?_toArray, List.getElem?_cons_zero, List.getElem?_cons_succ, Option.getD_some, List.setIfInBounds_toArray, List.set_cons_zero, List.set_cons_succ]); go_big_quiet_on) | (refine BigFrame.quiet_assign _ rfl ?_; (simp only [Act.put, Act.eval, Array.getD_eq_getD_getElem?, List.getElem?_toArray, List.getElem?_cons_zero, List.getElem?_cons_succ, Option.getD_some, List.setIfInBounds_toArray, List.set_cons_zero, List.set_cons_succ]); go_big_quiet_on) | (apply quiet_call; (focus (intro W; go_simp; constructor <;> with_reducible rfl)); (focus (intro W hW; first | fail)); (simp only [Act.put, Act.eval, Array.getD_eq_getD_getElem?, List.getElem?_toArray, List.getElem?_cons_zero, List.getElem?_cons_succ, Option.getD_some, List.setIfInBounds_toArray, List.set_cons_zero, List.set_cons_succ]); go_big_quiet_on) | (apply quiet_run; (focus (intro W hW; obtain ⟨hB, hS, hC, hF⟩ := hW; have c0 := hC 0 _ rfl; have f0 := hF 0 _ rfl; clear hC hF; (try simp only [Nat.add_zero] at c0 f0); (try simp only [List.length_cons, List.length_nil] at hS); have s0 := (hB.cell (p := ⟨bb, 0, none⟩) hlt).trans b0; have s1 := (hB.cell (p := ⟨bb, 1, none⟩) hlt).trans b1; have e1 := E1.out; have e2 := E2.out; go_simp; first | done | with_reducible rfl)); (simp only [Act.put, Act.eval, Array.getD_eq_getD_getElem?, List.getElem?_toArray, List.getElem?_cons_zero, List.getElem?_cons_succ, Option.getD_some, List.setIfInBounds_toArray, List.set_cons_zero, List.set_cons_succ]); go_big_quiet_on)))); refine wpQuiet_nil ?_; intro w2 hW; obtain ⟨hB, hS, hC, hF⟩ := hW; have c0 := hC 0 _ rfl; have f0 := hF 0 _ rfl; clear hC hF; (try simp only [Nat.add_zero] at c0 f0); (try simp only [List.length_cons, List.length_nil] at hS); have s0 := (hB.cell (p := ⟨bb, 0, none⟩) hlt).trans b0; have s1 := (hB.cell (p := ⟨bb, 1, none⟩) hlt).trans b1; have e1 := E1.out; have e2 := E2.out)
        clear e1 e2
        go_wp2_with fail
        go_returns
        exact Ret.bool (by rw [H.out]; try simp) (by (repeat' (first | (with_reducible exact Below.refl _ _) | (with_reducible assumption) | (with_reducible refine Below.alloc ?_ ?_ _) | (with_reducible refine Below.drew ?_) | (with_reducible refine Below.setCell ?_ ?_ _) | (refine Below.trans ?_ (Below.mono (by with_reducible assumption) ?_)) | go_size)))
    · have d2 : decide (n > 0) = false := by simpa using c2
      have H := Lib.hid (show hitK base n k = false by simp [hitK, c1, c2])
      go_enter Try.func94, Try.ntmps94
      go_wp2_with fail
      (refine wp_region_kept (w0 := w) (bs := [#[.int .i64 k.perm, .int .i64 k.base, .int .i64 k.len, .int .i64 k.pos, .int .i64 k.tag]]) (by kernel_rfl) (by kernel_rfl) (Kept.mk1 (by (repeat' (first | (with_reducible exact Below.refl _ _) | (with_reducible assumption) | (with_reducible refine Below.alloc ?_ ?_ _) | (with_reducible refine Below.drew ?_) | (with_reducible refine Below.setCell ?_ ?_ _) | (refine Below.trans ?_ (Below.mono (by with_reducible assumption) ?_)) | go_size))) (by go_size) (fun o => by simp [go_sem, *]) (fun o => by simp [go_sem, *])) ?_; (repeat (first | go_big_quiet_skip | (go_big_quiet_want; first | (refine BigFrame.quiet_move _ rfl ?_; (simp only [Act.put, Act.eval, Array.getD_eq_getD_getElem?, List.getElem?_toArray, List.getElem?_cons_zero, List.getElem?_cons_succ, Option.getD_some, List.setIfInBounds_toArray, List.set_cons_zero, List.set_cons_succ]); go_big_quiet_on) | (refine BigFrame.quiet_assign _ rfl ?_; (simp only [Act.put, Act.eval, Array.getD_eq_getD_getElem?, List.getElem?_toArray, List.getElem?_cons_zero, List.getElem?_cons_succ, Option.getD_some, List.setIfInBounds_toArray, List.set_cons_zero, List.set_cons_succ]); go_big_quiet_on) | (apply quiet_call; (focus (intro W; go_simp; constructor <;> with_reducible rfl)); (focus (intro W hW; first | fail)); (simp only [Act.put, Act.eval, Array.getD_eq_getD_getElem?, List.getElem?_toArray, List.getElem?_cons_zero, List.getElem?_cons_succ, Option.getD_some, List.setIfInBounds_toArray, List.set_cons_zero, List.set_cons_succ]); go_big_quiet_on) | (apply quiet_run; (focus (intro W hW; obtain ⟨hB, hS, hC, hF⟩ := hW; have c0 := hC 0 _ rfl; have f0 := hF 0 _ rfl; clear hC hF; (try simp only [Nat.add_zero] at c0 f0); (try simp only [List.length_cons, List.length_nil] at hS); have s0 := (hB.cell (p := ⟨bb, 0, none⟩) hlt).trans b0; have s1 := (hB.cell (p := ⟨bb, 1, none⟩) hlt).trans b1; have e1 := E1.out; have e2 := E2.out; go_simp; first | done | with_reducible rfl)); (simp only [Act.put, Act.eval, Array.getD_eq_getD_getElem?, List.getElem?_toArray, List.getElem?_cons_zero, List.getElem?_cons_succ, Option.getD_some, List.setIfInBounds_toArray, List.set_cons_zero, List.set_cons_succ]); go_big_quiet_on)))); refine wpQuiet_nil ?_; intro w2 hW; obtain ⟨hB, hS, hC, hF⟩ := hW; have c0 := hC 0 _ rfl; have f0 := hF 0 _ rfl; clear hC hF; (try simp only [Nat.add_zero] at c0 f0); (try simp only [List.length_cons, List.length_nil] at hS); have s0 := (hB.cell (p := ⟨bb, 0, none⟩) hlt).trans b0; have s1 := (hB.cell (p := ⟨bb, 1, none⟩) hlt).trans b1; have e1 := E1.out; have e2 := E2.out)
      clear e1 e2
      go_wp2_with fail
      go_returns
      exact Ret.bool (by rw [H.out]; try simp) (by (repeat' (first | (with_reducible exact Below.refl _ _) | (with_reducible assumption) | (with_reducible refine Below.alloc ?_ ?_ _) | (with_reducible refine Below.drew ?_) | (with_reducible refine Below.setCell ?_ ?_ _) | (refine Below.trans ?_ (Below.mono (by with_reducible assumption) ?_)) | go_size)))
  · have d1 : decide (k.len > 0) = false := by simpa using c1
    have H := Lib.hid (show hitK base n k = false by simp [hitK, c1])
    go_enter Try.func94, Try.ntmps94
    go_wp2_with fail
    (refine wp_region_kept (w0 := w) (bs := [#[.int .i64 k.perm, .int .i64 k.base, .int .i64 k.len, .int .i64 k.pos, .int .i64 k.tag]]) (by kernel_rfl) (by kernel_rfl) (Kept.mk1 (by (repeat' (first | (with_reducible exact Below.refl _ _) | (with_reducible assumption) | (with_reducible refine Below.alloc ?_ ?_ _) | (with_reducible refine Below.drew ?_) | (with_reducible refine Below.setCell ?_ ?_ _) | (refine Below.trans ?_ (Below.mono (by with_reducible assumption) ?_)) | go_size))) (by go_size) (fun o => by simp [go_sem, *]) (fun o => by simp [go_sem, *])) ?_; (repeat (first | go_big_quiet_skip | (go_big_quiet_want; first | (refine BigFrame.quiet_move _ rfl ?_; (simp only [Act.put, Act.eval, Array.getD_eq_getD_getElem?, List.getElem?_toArray, List.getElem?_cons_zero, List.getElem?_cons_succ, Option.getD_some, List.setIfInBounds_toArray, List.set_cons_zero, List.set_cons_succ]); go_big_quiet_on) | (refine BigFrame.quiet_assign _ rfl ?_; (simp only [Act.put, Act.eval, Array.getD_eq_getD_getElem?, List.getElem?_toArray, List.getElem?_cons_zero, List.getElem?_cons_succ, Option.getD_some, List.setIfInBounds_toArray, List.set_cons_zero, List.set_cons_succ]); go_big_quiet_on) | (apply quiet_call; (focus (intro W; go_simp; constructor <;> with_reducible rfl)); (focus (intro W hW; first | fail)); (simp only [Act.put, Act.eval, Array.getD_eq_getD_getElem?, List.getElem?_toArray, List.getElem?_cons_zero, List.getElem?_cons_succ, Option.getD_some, List.setIfInBounds_toArray, List.set_cons_zero, List.set_cons_succ]); go_big_quiet_on) | (apply quiet_run; (focus (intro W hW; obtain ⟨hB, hS, hC, hF⟩ := hW; have c0 := hC 0 _ rfl; have f0 := hF 0 _ rfl; clear hC hF; (try simp only [Nat.add_zero] at c0 f0); (try simp only [List.length_cons, List.length_nil] at hS); have s0 := (hB.cell (p := ⟨bb, 0, none⟩) hlt).trans b0; have s1 := (hB.cell (p := ⟨bb, 1, none⟩) hlt).trans b1; have e1 := E1.out; have e2 := E2.out; go_simp; first | done | with_reducible rfl)); (simp only [Act.put, Act.eval, Array.getD_eq_getD_getElem?, List.getElem?_toArray, List.getElem?_cons_zero, List.getElem?_cons_succ, Option.getD_some, List.setIfInBounds_toArray, List.set_cons_zero, List.set_cons_succ]); go_big_quiet_on)))); refine wpQuiet_nil ?_; intro w2 hW; obtain ⟨hB, hS, hC, hF⟩ := hW; have c0 := hC 0 _ rfl; have f0 := hF 0 _ rfl; clear hC hF; (try simp only [Nat.add_zero] at c0 f0); (try simp only [List.length_cons, List.length_nil] at hS); have s0 := (hB.cell (p := ⟨bb, 0, none⟩) hlt).trans b0; have s1 := (hB.cell (p := ⟨bb, 1, none⟩) hlt).trans b1; have e1 := E1.out; have e2 := E2.out)
    clear e1 e2
    go_wp2_with fail
    go_returns
    exact Ret.bool (by rw [H.out]; try simp) (by (repeat' (first | (with_reducible exact Below.refl _ _) | (with_reducible assumption) | (with_reducible refine Below.alloc ?_ ?_ _) | (with_reducible refine Below.drew ?_) | (with_reducible refine Below.setCell ?_ ?_ _) | (refine Below.trans ?_ (Below.mono (by with_reducible assumption) ?_)) | go_size)))
/-- what a stroke of the broom leaves: block bb counts, in block g the cells from 'off' on are us -/
structure Stroke (w w' : World) (bb g off : Nat) (tB : TypeId) (cnt : Array Value) (us : List Value) : Prop where
  os : w'.os = w.os
  tape : w'.tape = w.tape
  output : w'.output = w.output
  size : w.heap.size ≤ w'.heap.size
  block : ∀ k, k < w.heap.size → k ≠ bb → k ≠ g → w'.heap[k]? = w.heap[k]?
  cnt : Box w' bb tB cnt
  row : ∀ t cs, Box w g t cs → Box w' g t (setMany cs.toList off us).toArray
theorem setMany_same : ∀ (us ys : List Value) (p : Nat), (∀ j, j < us.length → ys[p + j]? = us[j]?) → setMany ys p us = ys
  | [], _, _, _ => rfl
  | u :: us, ys, p, h => by
    have h0 := h 0 (by simp)
    simp only [Nat.add_zero, List.getElem?_cons_zero] at h0
    obtain ⟨hlt, he⟩ := List.getElem?_eq_some_iff.1 h0
    have hs : ys.set p u = ys := by rw [← he]; exact List.set_getElem_self hlt
    rw [setMany, hs]
    exact setMany_same us ys (p + 1) fun j hj => by
      have := h (j + 1) (by simp; omega)
      rw [List.getElem?_cons_succ] at this
      rw [← this]; congr 1; omega
theorem Stroke.none_ {w w' : World} {bb g off : Nat} {tB : TypeId} {cnt : Array Value} {us : List Value} (hb : Below w.heap.size w w') (hB : Box w bb tB cnt) (hg : g < w.heap.size) (hc : ∀ j, j < us.length → w.cell? ⟨g, off + j, none⟩ = us[j]?) : Stroke w w' bb g off tB cnt us :=
  ⟨hb.os, hb.tape, hb.output, hb.size, fun k hk _ _ => hb.block k hk, hB.on hb, fun t cs h => by
    have hs : setMany cs.toList off us = cs.toList := setMany_same _ _ _ fun j hj => by
      rw [Array.getElem?_toList, ← hc j hj, h.cell]
    rw [hs]
    exact h.on hb⟩
theorem Stroke.hit {w w1 : World} {bb g off : Nat} {tB : TypeId} {cnt : Array Value} {us : List Value} {u : Value} (hb : Below w.heap.size w w1) (hB : Box w bb tB cnt) (hg : g < w.heap.size) (hne : g ≠ bb) :
    Stroke w ((w1.setCells g off us).setCell ⟨bb, 2, none⟩ u) bb g off tB (cnt.setIfInBounds 2 u) us := by
  obtain ⟨h1, h2⟩ := grown_setCells (g := g) us off w1
  have h3 := grown_setCell (w1.setCells g off us) bb 2 u
  have hz := hb.size
  refine ⟨by rw [h3.os, h1.os, hb.os], by rw [h3.tape, h1.tape, hb.tape], by rw [h3.output, h1.output, hb.output], ?_, fun k hk k1 k2 => ?_, ?_, fun t cs h => ?_⟩
  · rw [World.size_setCell, h2]; exact hb.size
  · rw [Below.heap_setCell _ _ _ _ k1, h1.block k (by omega) (fun e => by cases e; exact k2 rfl), hb.block k hk]
  · exact ((hB.on hb).grown h1 (fun e => by cases e; exact hne rfl)).set_ 2 u
  · exact ((h.on hb).setCells us off _ _).far hne u
/-- a struct stored into a row: the world written out -/
theorem wpList_store_at {P : Program} {ops : Array Oper} {rest : List Oper} {o : Oper} {a : Act} {w : World} {Q : Exit → Act → World → Prop} (hgd : o.guard = none) (ty : TypeId) (x y : Operand) (ho : o.op = .store ty x y)
    (g off : Nat) (cells : Array Value) (hx : a.eval x = .pointer (some ⟨g, off, none⟩)) (hy : a.eval y = .agg cells) (hthere : ∀ j, j < cells.size → (w.cell? ⟨g, off + j, none⟩).isSome = true ∧ w.frozen? ⟨g, off + j, none⟩ = false) (hi : (P.info? ty).map (·.size) = some cells.size)
    (h1 : cells.all (·.oneCell') = true) (h : ∀ w', w' = w.setCells g off cells.toList → wpList P ops Q rest (a.put o.dst undef) w') : wpList P ops Q (o :: rest) a w :=
  wpList_store_mid hgd ty x y ho g off cells hx hy hthere hi h1 (h _ rfl)
set_option maxHeartbeats 1000000 in
theorem c_broom_key (bb g off : Nat) (base n many : Int) (k : Key) (w : World) (hbx : Box w bb 104 #[.int .i64 base, .int .i64 n, .int .i64 many]) (hg : g < w.heap.size) (hne : g ≠ bb)
    (hc : ∀ j, j < 5 → w.cell? ⟨g, off + j, none⟩ = (encK k)[j]?) (hf : ∀ o, w.frozen? ⟨g, o, none⟩ = false)
    (hk : KeyB k) (h1 : 0 ≤ base) (h2 : base ≤ 400) (h3 : 0 ≤ n) (h4 : n ≤ 400) (h5 : 0 ≤ many) (h6 : many ≤ 100000) :
    Calls Try.prog 61 #[.pointer (some ⟨bb, 0, none⟩), .pointer (some ⟨g, off, none⟩)] w (fun e w' => e = .returned (.tuple #[]) ∧ Stroke w w' bb g off 104 #[.int .i64 base, .int .i64 n, .int .i64 (many + cntK base n k)] (encK (swK base n k))) := by
  have HBX := Lib.hid hbx
  have HC := Lib.hid hc
  have HK := Lib.hid hk
  have q0 := hc 0 (by omega)
  have q1 := hc 1 (by omega)
  have q2 := hc 2 (by omega)
  have q3 := hc 3 (by omega)
  have q4 := hc 4 (by omega)
  simp only [encK, Nat.add_zero, List.getElem?_cons_zero, List.getElem?_cons_succ] at q0 q1 q2 q3 q4
  have hlb := hbx.lt
  have HT := Lib.hid (show ∀ j, j < 5 → (w.cell? ⟨g, off + j, none⟩).isSome = true from fun j hj => by
    rw [hc j hj, List.getElem?_eq_getElem (show j < (encK k).length from hj)]; rfl)
  clear hbx hc hk
  have HH := Lib.hid (c_broom_hits bb base n k w hlb ((HBX.out.cell 0).trans rfl) ((HBX.out.cell 1).trans rfl) (HK.out) h1 h2 h3 h4)
  cases hh : hitK base n k
  · have HR := Lib.hid (show cntK base n k = 0 ∧ swK base n k = k by simp [cntK, swK, hh, one01])
    rw [hh] at HH
    clear hh
    go_enter Try.func61, Try.ntmps61
    go_wp2_with (go_at_call 94; (with_reducible refine HH.out.mono ?_); intro e w1 hr; obtain ⟨rfl, hb, hc, hf1, hz⟩ := hr.use; clear hr; clear hc hf1 hz)
    go_end0
    refine ⟨rfl, ?_⟩
    rw [HR.out.1, HR.out.2, Int.add_zero]
    exact Stroke.none_ hb HBX.out hg HC.out
  · have HR := Lib.hid (show cntK base n k = 1 ∧ swK base n k = Key.zero by simp [cntK, swK, hh, one01])
    rw [hh] at HH
    clear hh
    have E1 := Lib.hid (show IntKind.i64.wrap (many + 1) = many + 1 from IntWalk.i64_in _ (by omega))
    go_enter Try.func61, Try.ntmps61
    go_wp2_with (first | (go_at_call 94; (with_reducible refine HH.out.mono ?_); intro e w1 hr; obtain ⟨rfl, hb, hc, hf1, hz⟩ := hr.use; clear hr; have hg1 : g < w1.heap.size := (by omega); have hb1 := Lib.hid (HBX.out.on hb); have F1 := Lib.hid (fun o => (hf1 g o hg).trans (hf o)); have T1 := Lib.hid (fun j hj => (congrArg Option.isSome (hc g (off + j) hg)).trans (HT.out j hj)); clear hc hf1 q0 q1 q2 q3 q4 hf) | (refine wpList_store_at rfl 28 (.tmp 11) (.tmp 10) rfl g off #[.int .i64 0, .int .i64 0, .int .i64 0, .int .i64 0, .int .i64 0] rfl rfl ?_ (by kernel_rfl) (by simp [Value.oneCell']) ?_; exact (fun j hj => ⟨T1.out j hj, F1.out _⟩); intro w2 hw2; have E2 := Lib.hid hw2; have hb2 := Lib.hid (show Box w2 bb 104 _ by rw [hw2]; exact hb1.out.grown (grown_setCells _ _ _).1 (fun e => by cases e; exact hne rfl)); have c2 := (hb2.out.cell 2); have f2 := (hb2.out.frozen 2); clear hw2) | fail)
    go_end0
    refine ⟨rfl, ?_⟩
    rw [HR.out.1, HR.out.2, E2.out]
    exact Stroke.hit (us := encK Key.zero) hb HBX.out hg hne
set_option maxHeartbeats 1000000 in
theorem c_broom_val (bb g off : Nat) (base n many : Int) (v : Val) (w : World) (hbx : Box w bb 104 #[.int .i64 base, .int .i64 n, .int .i64 many]) (hg : g < w.heap.size) (hne : g ≠ bb)
    (hc : ∀ j, j < 7 → w.cell? ⟨g, off + j, none⟩ = (encV v)[j]?) (hf : ∀ o, w.frozen? ⟨g, o, none⟩ = false)
    (hk : v.is = true → KeyB v.key) (h1 : 0 ≤ base) (h2 : base ≤ 400) (h3 : 0 ≤ n) (h4 : n ≤ 400) (h5 : 0 ≤ many) (h6 : many ≤ 100000) :
    Calls Try.prog 62 #[.pointer (some ⟨bb, 0, none⟩), .pointer (some ⟨g, off, none⟩)] w (fun e w' => e = .returned (.tuple #[]) ∧ Stroke w w' bb g off 104 #[.int .i64 base, .int .i64 n, .int .i64 (many + cntV base n v)] (encV (swV base n v))) := by
  have HBX := Lib.hid hbx
  have HC := Lib.hid hc
  have HK := Lib.hid hk
  have q0 := hc 0 (by omega)
  have q1 := hc 1 (by omega)
  have q2 := hc 2 (by omega)
  have q3 := hc 3 (by omega)
  have q4 := hc 4 (by omega)
  have q5 := hc 5 (by omega)
  have q6 := hc 6 (by omega)
  simp only [encV, Nat.add_zero, List.getElem?_cons_zero, List.getElem?_cons_succ] at q0 q1 q2 q3 q4 q5 q6
  have hlb := hbx.lt
  have HT := Lib.hid (show ∀ j, j < 7 → (w.cell? ⟨g, off + j, none⟩).isSome = true from fun j hj => by
    rw [hc j hj, List.getElem?_eq_getElem (show j < (encV v).length from hj)]; rfl)
  clear hbx hc hk
  cases hi : v.is
  · have HR := Lib.hid (show cntV base n v = 0 ∧ swV base n v = v by simp [cntV, swV, hitV, hi, one01])
    rw [hi] at q0
    go_enter Try.func62, Try.ntmps62
    go_wp2_with fail
    go_end0
    refine ⟨rfl, ?_⟩
    rw [HR.out.1, HR.out.2, Int.add_zero]
    exact Stroke.none_ (Below.refl _ _) HBX.out hg HC.out
  rw [hi] at q0
  have HH := Lib.hid (c_broom_hits bb base n v.key w hlb ((HBX.out.cell 0).trans rfl) ((HBX.out.cell 1).trans rfl) (HK.out hi) h1 h2 h3 h4)
  cases hh : hitK base n v.key
  · have HR := Lib.hid (show cntV base n v = 0 ∧ swV base n v = v by simp [cntV, swV, hitV, hi, hh, one01])
    rw [hh] at HH
    clear hh
    go_enter Try.func62, Try.ntmps62
    go_wp2_with (go_at_call 94; (with_reducible refine HH.out.mono ?_); intro e w1 hr; obtain ⟨rfl, hb, hc, hf1, hz⟩ := hr.use; clear hr; clear hc hf1 hz)
    go_end0
    refine ⟨rfl, ?_⟩
    rw [HR.out.1, HR.out.2, Int.add_zero]
    exact Stroke.none_ hb HBX.out hg HC.out
  · have HR := Lib.hid (show cntV base n v = 1 ∧ swV base n v = ⟨false, 0, Key.zero⟩ by simp [cntV, swV, hitV, hi, hh, one01])
    rw [hh] at HH
    clear hh
    have E1 := Lib.hid (show IntKind.i64.wrap (many + 1) = many + 1 from IntWalk.i64_in _ (by omega))
    go_enter Try.func62, Try.ntmps62
    go_wp2_with (first | (go_at_call 94; (with_reducible refine HH.out.mono ?_); intro e w1 hr; obtain ⟨rfl, hb, hc, hf1, hz⟩ := hr.use; clear hr; have hg1 : g < w1.heap.size := (by omega); have hb1 := Lib.hid (HBX.out.on hb); have F1 := Lib.hid (fun o => (hf1 g o hg).trans (hf o)); have T1 := Lib.hid (fun j hj => (congrArg Option.isSome (hc g (off + j) hg)).trans (HT.out j hj)); clear hc hf1 q0 q1 q2 q3 q4 q5 q6 hf) | (refine wpList_store_at rfl 35 (.tmp 18) (.tmp 17) rfl g off #[.bool false, .int .i64 0, .int .i64 0, .int .i64 0, .int .i64 0, .int .i64 0, .int .i64 0] rfl rfl ?_ (by kernel_rfl) (by simp [Value.oneCell']) ?_; exact (fun j hj => ⟨T1.out j hj, F1.out _⟩); intro w2 hw2; have E2 := Lib.hid hw2; have hb2 := Lib.hid (show Box w2 bb 104 _ by rw [hw2]; exact hb1.out.grown (grown_setCells _ _ _).1 (fun e => by cases e; exact hne rfl)); have c2 := (hb2.out.cell 2); have f2 := (hb2.out.frozen 2); clear hw2) | fail)
    go_end0
    refine ⟨rfl, ?_⟩
    rw [HR.out.1, HR.out.2, E2.out]
    exact Stroke.hit (us := encV ⟨false, 0, Key.zero⟩) hb HBX.out hg hne
end Go.Proofs.Ytnbppchpgagliaa
