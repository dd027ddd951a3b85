/- '==' on places, Eq of the reference on lists of places and of entries: as the plain data are. Conditions: none. -/
import Derived.Test.YthdlfepakkihnaaLinkM
import Derived.Test.YthdlfepakkihnaaEqV
import Derived.Test.YthdlfepakkihnaaFind
namespace Go.Proofs.Ythdlfepakkihnaa
open Go.RowKit
set_option linter.unusedVariables false
set_option linter.unusedSimpArgs false
set_option maxRecDepth 100000
@[go_sem] theorem Place.eta (k : Place) : Place.mk k.base k.code k.data k.tag = k := rfl
theorem Place_eq {x0 : Int} {x1 : Int} {x2 : Int} {x3 : Int} {y0 : Int} {y1 : Int} {y2 : Int} {y3 : Int} : (Place.mk x0 x1 x2 x3 = Place.mk y0 y1 y2 y3) ↔ (x0 = y0 ∧ x1 = y1 ∧ x2 = y2 ∧ x3 = y3) := ⟨fun h => Place.ext_iff'.2 h, fun h => Place.ext_iff'.1 h⟩
theorem eqf_Place (d : Nat) (a0 : Int) (a1 : Int) (a2 : Int) (a3 : Int) (b0 : Int) (b1 : Int) (b2 : Int) (b3 : Int) (w : World) : (Op.equalIn (d + 4) 55 (.agg #[.int .i64 a0, .int .i64 a1, .int .i64 a2, .int .i64 a3]) (.agg #[.int .i64 b0, .int .i64 b1, .int .i64 b2, .int .i64 b3])).run Try.prog w = .ok (decide ((Place.mk a0 a1 a2 a3) = (Place.mk b0 b1 b2 b3))) w := by
  rw [run_equalIn_struct _ _ _ _ _ rfl (by kernel_rfl)]
  simp [go_sem, Place_eq]
  repeat' split
  all_goals simp_all
@[go_sem high] theorem eql_Place (a0 : Int) (a1 : Int) (a2 : Int) (a3 : Int) (b0 : Int) (b1 : Int) (b2 : Int) (b3 : Int) (w : World) : (binOp .eql 55 (.agg #[.int .i64 a0, .int .i64 a1, .int .i64 a2, .int .i64 a3]) (.agg #[.int .i64 b0, .int .i64 b1, .int .i64 b2, .int .i64 b3])).run Try.prog w = .ok (.bool (decide ((Place.mk a0 a1 a2 a3) = (Place.mk b0 b1 b2 b3)))) w := by
  rw [run_eql_struct, eqf_Place 9996]
  rfl
@[go_sem high] theorem neq_Place (a0 : Int) (a1 : Int) (a2 : Int) (a3 : Int) (b0 : Int) (b1 : Int) (b2 : Int) (b3 : Int) (w : World) : (binOp .neq 55 (.agg #[.int .i64 a0, .int .i64 a1, .int .i64 a2, .int .i64 a3]) (.agg #[.int .i64 b0, .int .i64 b1, .int .i64 b2, .int .i64 b3])).run Try.prog w = .ok (.bool (!(decide ((Place.mk a0 a1 a2 a3) = (Place.mk b0 b1 b2 b3))))) w := by
  rw [run_neq_struct, eqf_Place 9996]
  rfl
set_option maxHeartbeats 4000000 in
theorem r_Eq_C (A A' : Option Addr) (c c' : Nat) (xs ys : List Place) (w : World) (hx : xs.length < 9223372036854775807) (hL : Lies encC 4 w w.heap.size A xs) (hM : Lies encC 4 w w.heap.size A' ys) :
    Calls Try.prog 17 #[.slice A xs.length c, .slice A' ys.length c'] w (Ret (.bool (decide (xs = ys))) w) := by
  by_cases hl : xs.length = ys.length
  · go_enter Try.func17, Try.ntmps17
    go_wp2
    go_loopw [14] (fun v wr => ∃ k : Nat, v = .int .i64 k ∧ k ≤ xs.length ∧ (∀ j, j < k → xs[j]? = ys[j]?) ∧ Below w.heap.size w wr) (fun v _ => (xs.length - intOf v).toNat)
    case atStart => exact ⟨0, rfl, by omega, fun j hj => by omega, by (repeat' (first | (with_reducible exact Below.refl _ _) | (with_reducible assumption) | (with_reducible refine Below.alloc ?_ ?_ _) | (with_reducible refine Below.drew ?_) | (with_reducible refine Below.setCell ?_ ?_ _) | (refine Below.trans ?_ (Below.mono (by with_reducible assumption) ?_)) | go_size))⟩
    case round =>
      obtain ⟨k, rfl, hk, hall, hbw⟩ := hrel
      have hbz := hbw.size
      have HA := Lib.hid hall
      clear hall
      rcases Nat.lt_or_ge k xs.length with hlt | hge
      · obtain ⟨b, o, p, rfl, hb, hp, q0, q1, q2, q3⟩ := (hL.below hbw).cellsC hlt
        obtain ⟨b', o', q, rfl, hb', hq, r0, r1, r2, r3⟩ := (hM.below hbw).cellsC (k := k) (by omega)
        have HP := Lib.hid hp
        have HQ := Lib.hid hq
        clear hp hq
        have hbr : b' < wr.heap.size := by omega
        have hbq : b < wr.heap.size := by omega
        have e4 : (0 ≤ (k : Int) ∧ (k : Int) < ys.length) := by omega
        cases hd : decide (p = q)
        · have H := Lib.hid (show decide (xs = ys) = false from decide_eq_false fun h => by
            rw [h, HQ.out] at HP
            exact (show ¬ p = q from of_decide_eq_false hd) (Option.some.inj HP.out).symm)
          go_wp2
          (refine wp_region_kept (w0 := wr) (bs := [#[.int .i64 p.base, .int .i64 p.code, .int .i64 p.data, .int .i64 p.tag]]) (by kernel_rfl) (by kernel_rfl) (Kept.mk1 (by (repeat' (first | (with_reducible exact Below.refl _ _) | (with_reducible assumption) | (with_reducible refine Below.alloc ?_ ?_ _) | (with_reducible refine Below.drew ?_) | (with_reducible refine Below.setCell ?_ ?_ _) | (refine Below.trans ?_ (Below.mono (by with_reducible assumption) ?_)) | go_size))) (by go_size) (fun o => by simp [go_sem, *]) (fun o => by simp [go_sem, *])) ?_; (repeat (first | go_big_quiet_skip | (go_big_quiet_want; first | (refine BigFrame.quiet_move _ rfl ?_; (simp only [Act.put, Act.eval, Array.getD_eq_getD_getElem?, List.getElem?_toArray, List.getElem?_cons_zero, List.getElem?_cons_succ, Option.getD_some, List.setIfInBounds_toArray, List.set_cons_zero, List.set_cons_succ]); go_big_quiet_on) | (refine BigFrame.quiet_assign _ rfl ?_; (simp only [Act.put, Act.eval, Array.getD_eq_getD_getElem?, List.getElem?_toArray, List.getElem?_cons_zero, List.getElem?_cons_succ, Option.getD_some, List.setIfInBounds_toArray, List.set_cons_zero, List.set_cons_succ]); go_big_quiet_on) | (apply quiet_call; (focus (intro W; go_simp; constructor <;> with_reducible rfl)); (focus (intro W hW; first | fail)); (simp only [Act.put, Act.eval, Array.getD_eq_getD_getElem?, List.getElem?_toArray, List.getElem?_cons_zero, List.getElem?_cons_succ, Option.getD_some, List.setIfInBounds_toArray, List.set_cons_zero, List.set_cons_succ]); go_big_quiet_on) | (apply quiet_run; (focus (intro W hW; obtain ⟨hB, hS, hC, hF⟩ := hW; have c0 := hC 0 _ rfl; have f0 := hF 0 _ rfl; clear hC hF; (try simp only [Nat.add_zero] at c0 f0); (try simp only [List.length_cons, List.length_nil] at hS); have s0 := (hB.cell (p := ⟨b', o' + k * 4, none⟩) hbr).trans r0; have s1 := (hB.cell (p := ⟨b', o' + k * 4 + 1, none⟩) hbr).trans r1; have s2 := (hB.cell (p := ⟨b', o' + k * 4 + 2, none⟩) hbr).trans r2; have s3 := (hB.cell (p := ⟨b', o' + k * 4 + 3, none⟩) hbr).trans r3; go_simp; first | done | with_reducible rfl)); (simp only [Act.put, Act.eval, Array.getD_eq_getD_getElem?, List.getElem?_toArray, List.getElem?_cons_zero, List.getElem?_cons_succ, Option.getD_some, List.setIfInBounds_toArray, List.set_cons_zero, List.set_cons_succ]); go_big_quiet_on)))); refine wpQuiet_nil ?_; intro w2 hW; obtain ⟨hB, hS, hC, hF⟩ := hW; have c0 := hC 0 _ rfl; have f0 := hF 0 _ rfl; clear hC hF; (try simp only [Nat.add_zero] at c0 f0); (try simp only [List.length_cons, List.length_nil] at hS); have s0 := (hB.cell (p := ⟨b', o' + k * 4, none⟩) hbr).trans r0; have s1 := (hB.cell (p := ⟨b', o' + k * 4 + 1, none⟩) hbr).trans r1; have s2 := (hB.cell (p := ⟨b', o' + k * 4 + 2, none⟩) hbr).trans r2; have s3 := (hB.cell (p := ⟨b', o' + k * 4 + 3, none⟩) hbr).trans r3)
          go_wp2
          go_returns
          exact Ret.bool H.out.symm (by (repeat' (first | (with_reducible exact Below.refl _ _) | (with_reducible assumption) | (with_reducible refine Below.alloc ?_ ?_ _) | (with_reducible refine Below.drew ?_) | (with_reducible refine Below.setCell ?_ ?_ _) | (refine Below.trans ?_ (Below.mono (by with_reducible assumption) ?_)) | go_size)))
        · have H := Lib.hid (show p = q from of_decide_eq_true hd)
          go_wp2
          (refine wp_region_kept (w0 := wr) (bs := [#[.int .i64 p.base, .int .i64 p.code, .int .i64 p.data, .int .i64 p.tag]]) (by kernel_rfl) (by kernel_rfl) (Kept.mk1 (by (repeat' (first | (with_reducible exact Below.refl _ _) | (with_reducible assumption) | (with_reducible refine Below.alloc ?_ ?_ _) | (with_reducible refine Below.drew ?_) | (with_reducible refine Below.setCell ?_ ?_ _) | (refine Below.trans ?_ (Below.mono (by with_reducible assumption) ?_)) | go_size))) (by go_size) (fun o => by simp [go_sem, *]) (fun o => by simp [go_sem, *])) ?_; (repeat (first | go_big_quiet_skip | (go_big_quiet_want; first | (refine BigFrame.quiet_move _ rfl ?_; (simp only [Act.put, Act.eval, Array.getD_eq_getD_getElem?, List.getElem?_toArray, List.getElem?_cons_zero, List.getElem?_cons_succ, Option.getD_some, List.setIfInBounds_toArray, List.set_cons_zero, List.set_cons_succ]); go_big_quiet_on) | (refine BigFrame.quiet_assign _ rfl ?_; (simp only [Act.put, Act.eval, Array.getD_eq_getD_getElem?, List.getElem?_toArray, List.getElem?_cons_zero, List.getElem?_cons_succ, Option.getD_some, List.setIfInBounds_toArray, List.set_cons_zero, List.set_cons_succ]); go_big_quiet_on) | (apply quiet_call; (focus (intro W; go_simp; constructor <;> with_reducible rfl)); (focus (intro W hW; first | fail)); (simp only [Act.put, Act.eval, Array.getD_eq_getD_getElem?, List.getElem?_toArray, List.getElem?_cons_zero, List.getElem?_cons_succ, Option.getD_some, List.setIfInBounds_toArray, List.set_cons_zero, List.set_cons_succ]); go_big_quiet_on) | (apply quiet_run; (focus (intro W hW; obtain ⟨hB, hS, hC, hF⟩ := hW; have c0 := hC 0 _ rfl; have f0 := hF 0 _ rfl; clear hC hF; (try simp only [Nat.add_zero] at c0 f0); (try simp only [List.length_cons, List.length_nil] at hS); have s0 := (hB.cell (p := ⟨b', o' + k * 4, none⟩) hbr).trans r0; have s1 := (hB.cell (p := ⟨b', o' + k * 4 + 1, none⟩) hbr).trans r1; have s2 := (hB.cell (p := ⟨b', o' + k * 4 + 2, none⟩) hbr).trans r2; have s3 := (hB.cell (p := ⟨b', o' + k * 4 + 3, none⟩) hbr).trans r3; go_simp; first | done | with_reducible rfl)); (simp only [Act.put, Act.eval, Array.getD_eq_getD_getElem?, List.getElem?_toArray, List.getElem?_cons_zero, List.getElem?_cons_succ, Option.getD_some, List.setIfInBounds_toArray, List.set_cons_zero, List.set_cons_succ]); go_big_quiet_on)))); refine wpQuiet_nil ?_; intro w2 hW; obtain ⟨hB, hS, hC, hF⟩ := hW; have c0 := hC 0 _ rfl; have f0 := hF 0 _ rfl; clear hC hF; (try simp only [Nat.add_zero] at c0 f0); (try simp only [List.length_cons, List.length_nil] at hS); have s0 := (hB.cell (p := ⟨b', o' + k * 4, none⟩) hbr).trans r0; have s1 := (hB.cell (p := ⟨b', o' + k * 4 + 1, none⟩) hbr).trans r1; have s2 := (hB.cell (p := ⟨b', o' + k * 4 + 2, none⟩) hbr).trans r2; have s3 := (hB.cell (p := ⟨b', o' + k * 4 + 3, none⟩) hbr).trans r3)
          go_wp2
          go_roundw
          case rel =>
            refine ⟨k + 1, by go_num, by omega, fun j hj => ?_, by (repeat' (first | (with_reducible exact Below.refl _ _) | (with_reducible assumption) | (with_reducible refine Below.alloc ?_ ?_ _) | (with_reducible refine Below.drew ?_) | (with_reducible refine Below.setCell ?_ ?_ _) | (refine Below.trans ?_ (Below.mono (by with_reducible assumption) ?_)) | go_size))⟩
            rcases Nat.lt_or_ge j k with h | h
            · exact HA.out j h
            · obtain rfl : j = k := by omega
              rw [HP.out, HQ.out, H.out]
          case measure => simp [intOf]; omega
      · have H := Lib.hid (show decide (xs = ys) = true from decide_eq_true (eqOfAll hl fun j hj => HA.out j (by omega)))
        go_wp2
        go_returns
        exact Ret.bool H.out.symm (by (repeat' (first | (with_reducible exact Below.refl _ _) | (with_reducible assumption) | (with_reducible refine Below.alloc ?_ ?_ _) | (with_reducible refine Below.drew ?_) | (with_reducible refine Below.setCell ?_ ?_ _) | (refine Below.trans ?_ (Below.mono (by with_reducible assumption) ?_)) | go_size)))
  · have H := Lib.hid (show decide (xs = ys) = false from decide_eq_false fun h => hl (by rw [h]))
    have hl' : ¬((xs.length : Int) = ys.length) := by omega
    go_enter Try.func17, Try.ntmps17
    go_wp2
    go_returns
    exact Ret.bool H.out.symm (by (repeat' (first | (with_reducible exact Below.refl _ _) | (with_reducible assumption) | (with_reducible refine Below.alloc ?_ ?_ _) | (with_reducible refine Below.drew ?_) | (with_reducible refine Below.setCell ?_ ?_ _) | (refine Below.trans ?_ (Below.mono (by with_reducible assumption) ?_)) | go_size)))
set_option maxHeartbeats 4000000 in
theorem r_Eq_E (A A' : Option Addr) (c c' : Nat) (xs ys : List Entry) (w : World) (hx : xs.length < 9223372036854775807) (hL : Lies encE 11 w w.heap.size A xs) (hM : Lies encE 11 w w.heap.size A' ys) :
    Calls Try.prog 18 #[.slice A xs.length c, .slice A' ys.length c'] w (Ret (.bool (decide (xs = ys))) w) := by
  by_cases hl : xs.length = ys.length
  · go_enter Try.func18, Try.ntmps18
    go_wp2
    go_loopw [14] (fun v wr => ∃ k : Nat, v = .int .i64 k ∧ k ≤ xs.length ∧ (∀ j, j < k → xs[j]? = ys[j]?) ∧ Below w.heap.size w wr) (fun v _ => (xs.length - intOf v).toNat)
    case atStart => exact ⟨0, rfl, by omega, fun j hj => by omega, by (repeat' (first | (with_reducible exact Below.refl _ _) | (with_reducible assumption) | (with_reducible refine Below.alloc ?_ ?_ _) | (with_reducible refine Below.drew ?_) | (with_reducible refine Below.setCell ?_ ?_ _) | (refine Below.trans ?_ (Below.mono (by with_reducible assumption) ?_)) | go_size))⟩
    case round =>
      obtain ⟨k, rfl, hk, hall, hbw⟩ := hrel
      have hbz := hbw.size
      have HA := Lib.hid hall
      clear hall
      rcases Nat.lt_or_ge k xs.length with hlt | hge
      · obtain ⟨b, o, p, rfl, hb, hp, q0, q1, q2, q3, q4, q5, q6, q7, q8, q9, q10⟩ := (hL.below hbw).cellsE hlt
        obtain ⟨b', o', q, rfl, hb', hq, r0, r1, r2, r3, r4, r5, r6, r7, r8, r9, r10⟩ := (hM.below hbw).cellsE (k := k) (by omega)
        have HP := Lib.hid hp
        have HQ := Lib.hid hq
        clear hp hq
        have hbr : b' < wr.heap.size := by omega
        have hbq : b < wr.heap.size := by omega
        have e4 : (0 ≤ (k : Int) ∧ (k : Int) < ys.length) := by omega
        cases hd : decide (p = q)
        · have H := Lib.hid (show decide (xs = ys) = false from decide_eq_false fun h => by
            rw [h, HQ.out] at HP
            exact (show ¬ p = q from of_decide_eq_false hd) (Option.some.inj HP.out).symm)
          go_wp2
          (refine wp_region_kept (w0 := wr) (bs := [#[.string p.name, .int .i64 p.code.perm, .int .i64 p.code.base, .int .i64 p.code.len, .int .i64 p.code.pos, .int .i64 p.code.tag, .int .i64 p.data.perm, .int .i64 p.data.base, .int .i64 p.data.len, .int .i64 p.data.pos, .int .i64 p.data.tag]]) (by kernel_rfl) (by kernel_rfl) (Kept.mk1 (by (repeat' (first | (with_reducible exact Below.refl _ _) | (with_reducible assumption) | (with_reducible refine Below.alloc ?_ ?_ _) | (with_reducible refine Below.drew ?_) | (with_reducible refine Below.setCell ?_ ?_ _) | (refine Below.trans ?_ (Below.mono (by with_reducible assumption) ?_)) | go_size))) (by go_size) (fun o => by simp [go_sem, *]) (fun o => by simp [go_sem, *])) ?_; (repeat (first | go_big_quiet_skip | (go_big_quiet_want; first | (refine BigFrame.quiet_move _ rfl ?_; (simp only [Act.put, Act.eval, Array.getD_eq_getD_getElem?, List.getElem?_toArray, List.getElem?_cons_zero, List.getElem?_cons_succ, Option.getD_some, List.setIfInBounds_toArray, List.set_cons_zero, List.set_cons_succ]); go_big_quiet_on) | (refine BigFrame.quiet_assign _ rfl ?_; (simp only [Act.put, Act.eval, Array.getD_eq_getD_getElem?, List.getElem?_toArray, List.getElem?_cons_zero, List.getElem?_cons_succ, Option.getD_some, List.setIfInBounds_toArray, List.set_cons_zero, List.set_cons_succ]); go_big_quiet_on) | (apply quiet_call; (focus (intro W; go_simp; constructor <;> with_reducible rfl)); (focus (intro W hW; first | fail)); (simp only [Act.put, Act.eval, Array.getD_eq_getD_getElem?, List.getElem?_toArray, List.getElem?_cons_zero, List.getElem?_cons_succ, Option.getD_some, List.setIfInBounds_toArray, List.set_cons_zero, List.set_cons_succ]); go_big_quiet_on) | (apply quiet_run; (focus (intro W hW; obtain ⟨hB, hS, hC, hF⟩ := hW; have c0 := hC 0 _ rfl; have f0 := hF 0 _ rfl; clear hC hF; (try simp only [Nat.add_zero] at c0 f0); (try simp only [List.length_cons, List.length_nil] at hS); have s0 := (hB.cell (p := ⟨b', o' + k * 11, none⟩) hbr).trans r0; have s1 := (hB.cell (p := ⟨b', o' + k * 11 + 1, none⟩) hbr).trans r1; have s2 := (hB.cell (p := ⟨b', o' + k * 11 + 2, none⟩) hbr).trans r2; have s3 := (hB.cell (p := ⟨b', o' + k * 11 + 3, none⟩) hbr).trans r3; have s4 := (hB.cell (p := ⟨b', o' + k * 11 + 4, none⟩) hbr).trans r4; have s5 := (hB.cell (p := ⟨b', o' + k * 11 + 5, none⟩) hbr).trans r5; have s6 := (hB.cell (p := ⟨b', o' + k * 11 + 6, none⟩) hbr).trans r6; have s7 := (hB.cell (p := ⟨b', o' + k * 11 + 7, none⟩) hbr).trans r7; have s8 := (hB.cell (p := ⟨b', o' + k * 11 + 8, none⟩) hbr).trans r8; have s9 := (hB.cell (p := ⟨b', o' + k * 11 + 9, none⟩) hbr).trans r9; have s10 := (hB.cell (p := ⟨b', o' + k * 11 + 10, none⟩) hbr).trans r10; go_simp; first | done | with_reducible rfl)); (simp only [Act.put, Act.eval, Array.getD_eq_getD_getElem?, List.getElem?_toArray, List.getElem?_cons_zero, List.getElem?_cons_succ, Option.getD_some, List.setIfInBounds_toArray, List.set_cons_zero, List.set_cons_succ]); go_big_quiet_on)))); refine wpQuiet_nil ?_; intro w2 hW; obtain ⟨hB, hS, hC, hF⟩ := hW; have c0 := hC 0 _ rfl; have f0 := hF 0 _ rfl; clear hC hF; (try simp only [Nat.add_zero] at c0 f0); (try simp only [List.length_cons, List.length_nil] at hS); have s0 := (hB.cell (p := ⟨b', o' + k * 11, none⟩) hbr).trans r0; have s1 := (hB.cell (p := ⟨b', o' + k * 11 + 1, none⟩) hbr).trans r1; have s2 := (hB.cell (p := ⟨b', o' + k * 11 + 2, none⟩) hbr).trans r2; have s3 := (hB.cell (p := ⟨b', o' + k * 11 + 3, none⟩) hbr).trans r3; have s4 := (hB.cell (p := ⟨b', o' + k * 11 + 4, none⟩) hbr).trans r4; have s5 := (hB.cell (p := ⟨b', o' + k * 11 + 5, none⟩) hbr).trans r5; have s6 := (hB.cell (p := ⟨b', o' + k * 11 + 6, none⟩) hbr).trans r6; have s7 := (hB.cell (p := ⟨b', o' + k * 11 + 7, none⟩) hbr).trans r7; have s8 := (hB.cell (p := ⟨b', o' + k * 11 + 8, none⟩) hbr).trans r8; have s9 := (hB.cell (p := ⟨b', o' + k * 11 + 9, none⟩) hbr).trans r9; have s10 := (hB.cell (p := ⟨b', o' + k * 11 + 10, none⟩) hbr).trans r10)
          go_wp2
          go_returns
          exact Ret.bool H.out.symm (by (repeat' (first | (with_reducible exact Below.refl _ _) | (with_reducible assumption) | (with_reducible refine Below.alloc ?_ ?_ _) | (with_reducible refine Below.drew ?_) | (with_reducible refine Below.setCell ?_ ?_ _) | (refine Below.trans ?_ (Below.mono (by with_reducible assumption) ?_)) | go_size)))
        · have H := Lib.hid (show p = q from of_decide_eq_true hd)
          go_wp2
          (refine wp_region_kept (w0 := wr) (bs := [#[.string p.name, .int .i64 p.code.perm, .int .i64 p.code.base, .int .i64 p.code.len, .int .i64 p.code.pos, .int .i64 p.code.tag, .int .i64 p.data.perm, .int .i64 p.data.base, .int .i64 p.data.len, .int .i64 p.data.pos, .int .i64 p.data.tag]]) (by kernel_rfl) (by kernel_rfl) (Kept.mk1 (by (repeat' (first | (with_reducible exact Below.refl _ _) | (with_reducible assumption) | (with_reducible refine Below.alloc ?_ ?_ _) | (with_reducible refine Below.drew ?_) | (with_reducible refine Below.setCell ?_ ?_ _) | (refine Below.trans ?_ (Below.mono (by with_reducible assumption) ?_)) | go_size))) (by go_size) (fun o => by simp [go_sem, *]) (fun o => by simp [go_sem, *])) ?_; (repeat (first | go_big_quiet_skip | (go_big_quiet_want; first | (refine BigFrame.quiet_move _ rfl ?_; (simp only [Act.put, Act.eval, Array.getD_eq_getD_getElem?, List.getElem?_toArray, List.getElem?_cons_zero, List.getElem?_cons_succ, Option.getD_some, List.setIfInBounds_toArray, List.set_cons_zero, List.set_cons_succ]); go_big_quiet_on) | (refine BigFrame.quiet_assign _ rfl ?_; (simp only [Act.put, Act.eval, Array.getD_eq_getD_getElem?, List.getElem?_toArray, List.getElem?_cons_zero, List.getElem?_cons_succ, Option.getD_some, List.setIfInBounds_toArray, List.set_cons_zero, List.set_cons_succ]); go_big_quiet_on) | (apply quiet_call; (focus (intro W; go_simp; constructor <;> with_reducible rfl)); (focus (intro W hW; first | fail)); (simp only [Act.put, Act.eval, Array.getD_eq_getD_getElem?, List.getElem?_toArray, List.getElem?_cons_zero, List.getElem?_cons_succ, Option.getD_some, List.setIfInBounds_toArray, List.set_cons_zero, List.set_cons_succ]); go_big_quiet_on) | (apply quiet_run; (focus (intro W hW; obtain ⟨hB, hS, hC, hF⟩ := hW; have c0 := hC 0 _ rfl; have f0 := hF 0 _ rfl; clear hC hF; (try simp only [Nat.add_zero] at c0 f0); (try simp only [List.length_cons, List.length_nil] at hS); have s0 := (hB.cell (p := ⟨b', o' + k * 11, none⟩) hbr).trans r0; have s1 := (hB.cell (p := ⟨b', o' + k * 11 + 1, none⟩) hbr).trans r1; have s2 := (hB.cell (p := ⟨b', o' + k * 11 + 2, none⟩) hbr).trans r2; have s3 := (hB.cell (p := ⟨b', o' + k * 11 + 3, none⟩) hbr).trans r3; have s4 := (hB.cell (p := ⟨b', o' + k * 11 + 4, none⟩) hbr).trans r4; have s5 := (hB.cell (p := ⟨b', o' + k * 11 + 5, none⟩) hbr).trans r5; have s6 := (hB.cell (p := ⟨b', o' + k * 11 + 6, none⟩) hbr).trans r6; have s7 := (hB.cell (p := ⟨b', o' + k * 11 + 7, none⟩) hbr).trans r7; have s8 := (hB.cell (p := ⟨b', o' + k * 11 + 8, none⟩) hbr).trans r8; have s9 := (hB.cell (p := ⟨b', o' + k * 11 + 9, none⟩) hbr).trans r9; have s10 := (hB.cell (p := ⟨b', o' + k * 11 + 10, none⟩) hbr).trans r10; go_simp; first | done | with_reducible rfl)); (simp only [Act.put, Act.eval, Array.getD_eq_getD_getElem?, List.getElem?_toArray, List.getElem?_cons_zero, List.getElem?_cons_succ, Option.getD_some, List.setIfInBounds_toArray, List.set_cons_zero, List.set_cons_succ]); go_big_quiet_on)))); refine wpQuiet_nil ?_; intro w2 hW; obtain ⟨hB, hS, hC, hF⟩ := hW; have c0 := hC 0 _ rfl; have f0 := hF 0 _ rfl; clear hC hF; (try simp only [Nat.add_zero] at c0 f0); (try simp only [List.length_cons, List.length_nil] at hS); have s0 := (hB.cell (p := ⟨b', o' + k * 11, none⟩) hbr).trans r0; have s1 := (hB.cell (p := ⟨b', o' + k * 11 + 1, none⟩) hbr).trans r1; have s2 := (hB.cell (p := ⟨b', o' + k * 11 + 2, none⟩) hbr).trans r2; have s3 := (hB.cell (p := ⟨b', o' + k * 11 + 3, none⟩) hbr).trans r3; have s4 := (hB.cell (p := ⟨b', o' + k * 11 + 4, none⟩) hbr).trans r4; have s5 := (hB.cell (p := ⟨b', o' + k * 11 + 5, none⟩) hbr).trans r5; have s6 := (hB.cell (p := ⟨b', o' + k * 11 + 6, none⟩) hbr).trans r6; have s7 := (hB.cell (p := ⟨b', o' + k * 11 + 7, none⟩) hbr).trans r7; have s8 := (hB.cell (p := ⟨b', o' + k * 11 + 8, none⟩) hbr).trans r8; have s9 := (hB.cell (p := ⟨b', o' + k * 11 + 9, none⟩) hbr).trans r9; have s10 := (hB.cell (p := ⟨b', o' + k * 11 + 10, none⟩) hbr).trans r10)
          go_wp2
          go_roundw
          case rel =>
            refine ⟨k + 1, by go_num, by omega, fun j hj => ?_, by (repeat' (first | (with_reducible exact Below.refl _ _) | (with_reducible assumption) | (with_reducible refine Below.alloc ?_ ?_ _) | (with_reducible refine Below.drew ?_) | (with_reducible refine Below.setCell ?_ ?_ _) | (refine Below.trans ?_ (Below.mono (by with_reducible assumption) ?_)) | go_size))⟩
            rcases Nat.lt_or_ge j k with h | h
            · exact HA.out j h
            · obtain rfl : j = k := by omega
              rw [HP.out, HQ.out, H.out]
          case measure => simp [intOf]; omega
      · have H := Lib.hid (show decide (xs = ys) = true from decide_eq_true (eqOfAll hl fun j hj => HA.out j (by omega)))
        go_wp2
        go_returns
        exact Ret.bool H.out.symm (by (repeat' (first | (with_reducible exact Below.refl _ _) | (with_reducible assumption) | (with_reducible refine Below.alloc ?_ ?_ _) | (with_reducible refine Below.drew ?_) | (with_reducible refine Below.setCell ?_ ?_ _) | (refine Below.trans ?_ (Below.mono (by with_reducible assumption) ?_)) | go_size)))
  · have H := Lib.hid (show decide (xs = ys) = false from decide_eq_false fun h => hl (by rw [h]))
    have hl' : ¬((xs.length : Int) = ys.length) := by omega
    go_enter Try.func18, Try.ntmps18
    go_wp2
    go_returns
    exact Ret.bool H.out.symm (by (repeat' (first | (with_reducible exact Below.refl _ _) | (with_reducible assumption) | (with_reducible refine Below.alloc ?_ ?_ _) | (with_reducible refine Below.drew ?_) | (with_reducible refine Below.setCell ?_ ?_ _) | (refine Below.trans ?_ (Below.mono (by with_reducible assumption) ?_)) | go_size)))
end Go.Proofs.Ythdlfepakkihnaa
