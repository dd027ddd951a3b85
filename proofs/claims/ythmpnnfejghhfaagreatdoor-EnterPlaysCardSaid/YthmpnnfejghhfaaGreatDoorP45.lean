/- What the parts say: Eq of the reference on lists of values: as the plain data are. Conditions: none. -/
import Derived.Test.YthmpnnfejghhfaaGreatDoorP10
import Derived.Test.YthmpnnfejghhfaaGreatDoorP05
set_option linter.unusedVariables false
set_option linter.unusedSimpArgs false
namespace Go.Proofs.YthmpnnfejghhfaaGreatDoor
theorem az48 {P : Prop} (h : P := by
  go_wp2
  go_roundw
  case rel =>
    refine ⟨k + 1, by go_num, by omega, fun j hj => ?_, bel⟩
    rcases Nat.lt_or_ge j k with h | h
    · exact HA.out j h
    · obtain rfl : j = k := by omega
      rw [HP.out, HQ.out, H.out]
  case measure => simp [intOf]; omega) : P := h
theorem az61 {P : Prop} (h : P := by
  have H := Lib.hid (show decide (xs = ys) = true from decide_eq_true (eqOfAll hl fun j hj => HA.out j (by omega)))
  go_wp2
  go_returns
  exact Ret.bool H.out.symm bel) : P := h
theorem am152 {P Q : Prop} (k : Q) (h : Hq Q → P := by (intro k_; refine wpQuiet_nil ?_; intro w2 hW; obtain ⟨hB, hS, hC, hF⟩ := hW; have c0 := hC 0 _ rfl; have f0 := hF 0 _ rfl; clear hC hF; (try simp only [Nat.add_zero] at c0 f0); (try simp only [List.length_cons, List.length_nil] at hS); have s0 := (hB.cell (p := ⟨b', o' + k * 7, none⟩) hbr).trans r0; have s1 := (hB.cell (p := ⟨b', o' + k * 7 + 1, none⟩) hbr).trans r1; have s2 := (hB.cell (p := ⟨b', o' + k * 7 + 2, none⟩) hbr).trans r2; have s3 := (hB.cell (p := ⟨b', o' + k * 7 + 3, none⟩) hbr).trans r3; have s4 := (hB.cell (p := ⟨b', o' + k * 7 + 4, none⟩) hbr).trans r4; have s5 := (hB.cell (p := ⟨b', o' + k * 7 + 5, none⟩) hbr).trans r5; have s6 := (hB.cell (p := ⟨b', o' + k * 7 + 6, none⟩) hbr).trans r6; revert s6; revert s5; revert s4; revert s3; revert s2; revert s1; revert s0; revert hS; revert f0; revert c0; revert hB; revert w2; exact k_.out)) : P := h ⟨k⟩
theorem am175 {P Q : Prop} (k : Q) (h : Hq Q → P := by (intro k_; refine wp_region_kept (w0 := wr) (bs := [#[.bool p.is, .int .i64 p.n, .int .i64 p.key.perm, .int .i64 p.key.base, .int .i64 p.key.len, .int .i64 p.key.pos, .int .i64 p.key.tag]]) (by kernel_rfl) (by kernel_rfl) (Kept.mk1 bel (by go_size) (fun o => by simp [go_sem, *]) (fun o => by simp [go_sem, *])) ?_; exact k_.out)) : P := h ⟨k⟩
theorem am182 {P Q : Prop} (k : Q) (h : Hq Q → P := by (intro k_; have HP := Lib.hid hp; have HQ := Lib.hid hq; have hbr : b' < wr.heap.size := (by omega); have hbq : b < wr.heap.size := (by omega); have e4 : (0 ≤ (k : Int) ∧ (k : Int) < ys.length) := (by omega); revert e4; revert hbq; revert hbr; revert HQ; revert HP; exact k_.out)) : P := h ⟨k⟩
theorem am190 {P Q : Prop} (k : Q) (h : Hq Q → P := by (intro k_; have H := Lib.hid (show decide (xs = ys) = false from decide_eq_false fun h => hl (by rw [h])); have hl' : ¬((xs.length : Int) = ys.length) := (by omega); revert hl'; revert H; exact k_.out)) : P := h ⟨k⟩
open Go.RowKit
set_option maxRecDepth 100000
set_option maxHeartbeats 4000000 in
theorem r_Eq_V (A A' : Option Addr) (c c' : Nat) (xs ys : List Val) (w : World) (hx : xs.length < 9223372036854775807) (hL : Lies encV 7 w w.heap.size A xs) (hM : Lies encV 7 w w.heap.size A' ys) :
    Calls Tryz.prog 23 #[.slice A xs.length c, .slice A' ys.length c'] w (Ret (.bool (decide (xs = ys))) w) := by
  by_cases hl : xs.length = ys.length
  · go_enter Tryz.func23, Tryz.ntmps23
    go_wp2
    go_loopw [14] (fun v wr => ∃ k : Nat, v = .int .i64 k ∧ k ≤ xs.length ∧ (∀ j, j < k → xs[j]? = ys[j]?) ∧ Below w.heap.size w wr) (fun v _ => (xs.length - intOf v).toNat)
    case atStart => exact ⟨0, rfl, by omega, fun j hj => by omega, bel⟩
    case round =>
      obtain ⟨k, rfl, hk, hall, hbw⟩ := hrel
      have hbz := hbw.size; have HA := Lib.hid hall; clear hall
      rcases Nat.lt_or_ge k xs.length with hlt | hge
      · obtain ⟨b, o, p, rfl, hb, hp, q0, q1, q2, q3, q4, q5, q6⟩ := (hL.below hbw).cellsV hlt
        obtain ⟨b', o', q, rfl, hb', hq, r0, r1, r2, r3, r4, r5, r6⟩ := (hM.below hbw).cellsV (k := k) (by omega)
        refine am182 ?_; clear hp hq; intro HP HQ hbr hbq e4
        cases hd : decide (p = q)
        · have H := Lib.hid (show decide (xs = ys) = false from decide_eq_false fun h => by
            rw [h, HQ.out] at HP
            exact (show ¬ p = q from of_decide_eq_false hd) (Option.some.inj HP.out).symm)
          go_wp2
          (refine am175 ?_; (repeat (first | go_big_quiet_skip | (go_big_quiet_want; first | (refine BigFrame.quiet_move _ rfl ?_; (simp only [Act.put, Act.eval, n6, n7, n8, n9, n10, n5, n3, n4]); go_big_quiet_on) | (refine BigFrame.quiet_assign _ rfl ?_; (simp only [Act.put, Act.eval, n6, n7, n8, n9, n10, n5, n3, n4]); go_big_quiet_on) | (apply quiet_call; (focus (intro W; go_simp; constructor <;> with_reducible rfl)); (focus (intro W hW; first | fail)); (simp only [Act.put, Act.eval, n6, n7, n8, n9, n10, n5, n3, n4]); go_big_quiet_on) | (apply quiet_run; (focus (intro W hW; obtain ⟨hB, hS, hC, hF⟩ := hW; have c0 := hC 0 _ rfl; have f0 := hF 0 _ rfl; clear hC hF; (try simp only [Nat.add_zero] at c0 f0); (try simp only [List.length_cons, List.length_nil] at hS); have s0 := (hB.cell (p := ⟨b', o' + k * 7, none⟩) hbr).trans r0; have s1 := (hB.cell (p := ⟨b', o' + k * 7 + 1, none⟩) hbr).trans r1; have s2 := (hB.cell (p := ⟨b', o' + k * 7 + 2, none⟩) hbr).trans r2; have s3 := (hB.cell (p := ⟨b', o' + k * 7 + 3, none⟩) hbr).trans r3; have s4 := (hB.cell (p := ⟨b', o' + k * 7 + 4, none⟩) hbr).trans r4; have s5 := (hB.cell (p := ⟨b', o' + k * 7 + 5, none⟩) hbr).trans r5; have s6 := (hB.cell (p := ⟨b', o' + k * 7 + 6, none⟩) hbr).trans r6; go_simp; first | done | with_reducible rfl)); (simp only [Act.put, Act.eval, n6, n7, n8, n9, n10, n5, n3, n4]); go_big_quiet_on)))); refine am152 ?_; intro w2 hB c0 f0 hS s0 s1 s2 s3 s4 s5 s6)
          go_wp2
          go_returns
          exact Ret.bool H.out.symm bel
        · have H := Lib.hid (show p = q from of_decide_eq_true hd)
          go_wp2
          (refine am175 ?_; (repeat (first | go_big_quiet_skip | (go_big_quiet_want; first | (refine BigFrame.quiet_move _ rfl ?_; (simp only [Act.put, Act.eval, n6, n7, n8, n9, n10, n5, n3, n4]); go_big_quiet_on) | (refine BigFrame.quiet_assign _ rfl ?_; (simp only [Act.put, Act.eval, n6, n7, n8, n9, n10, n5, n3, n4]); go_big_quiet_on) | (apply quiet_call; (focus (intro W; go_simp; constructor <;> with_reducible rfl)); (focus (intro W hW; first | fail)); (simp only [Act.put, Act.eval, n6, n7, n8, n9, n10, n5, n3, n4]); go_big_quiet_on) | (apply quiet_run; (focus (intro W hW; obtain ⟨hB, hS, hC, hF⟩ := hW; have c0 := hC 0 _ rfl; have f0 := hF 0 _ rfl; clear hC hF; (try simp only [Nat.add_zero] at c0 f0); (try simp only [List.length_cons, List.length_nil] at hS); have s0 := (hB.cell (p := ⟨b', o' + k * 7, none⟩) hbr).trans r0; have s1 := (hB.cell (p := ⟨b', o' + k * 7 + 1, none⟩) hbr).trans r1; have s2 := (hB.cell (p := ⟨b', o' + k * 7 + 2, none⟩) hbr).trans r2; have s3 := (hB.cell (p := ⟨b', o' + k * 7 + 3, none⟩) hbr).trans r3; have s4 := (hB.cell (p := ⟨b', o' + k * 7 + 4, none⟩) hbr).trans r4; have s5 := (hB.cell (p := ⟨b', o' + k * 7 + 5, none⟩) hbr).trans r5; have s6 := (hB.cell (p := ⟨b', o' + k * 7 + 6, none⟩) hbr).trans r6; go_simp; first | done | with_reducible rfl)); (simp only [Act.put, Act.eval, n6, n7, n8, n9, n10, n5, n3, n4]); go_big_quiet_on)))); refine am152 ?_; intro w2 hB c0 f0 hS s0 s1 s2 s3 s4 s5 s6)
          exact az48
      · exact az61
  · refine am190 ?_; intro H hl'
    go_enter Tryz.func23, Tryz.ntmps23
    go_wp2
    go_returns
    exact Ret.bool H.out.symm bel
end Go.Proofs.YthmpnnfejghhfaaGreatDoor
