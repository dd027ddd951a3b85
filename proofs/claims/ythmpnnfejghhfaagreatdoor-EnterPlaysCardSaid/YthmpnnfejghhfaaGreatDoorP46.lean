/- What the parts say: '==' on frames, Eq of the reference on lists of frames and of integers: as the plain data are. Conditions: none. -/
import Derived.Test.YthmpnnfejghhfaaGreatDoorP12
import Derived.Test.YthmpnnfejghhfaaGreatDoorP45
set_option linter.unusedVariables false
set_option linter.unusedSimpArgs false
namespace Go.Proofs.YthmpnnfejghhfaaGreatDoor
theorem am133 {P Q : Prop} (k : Q) (h : Hq Q → P := by (intro k_; have s0 := (hB.cell (p := ⟨b', o' + k * 12, none⟩) hbr).trans r0; have s1 := (hB.cell (p := ⟨b', o' + k * 12 + 1, none⟩) hbr).trans r1; have s2 := (hB.cell (p := ⟨b', o' + k * 12 + 2, none⟩) hbr).trans r2; have s3 := (hB.cell (p := ⟨b', o' + k * 12 + 3, none⟩) hbr).trans r3; have s4 := (hB.cell (p := ⟨b', o' + k * 12 + 4, none⟩) hbr).trans r4; have s5 := (hB.cell (p := ⟨b', o' + k * 12 + 5, none⟩) hbr).trans r5; have s6 := (hB.cell (p := ⟨b', o' + k * 12 + 6, none⟩) hbr).trans r6; have s7 := (hB.cell (p := ⟨b', o' + k * 12 + 7, none⟩) hbr).trans r7; have s8 := (hB.cell (p := ⟨b', o' + k * 12 + 8, none⟩) hbr).trans r8; have s9 := (hB.cell (p := ⟨b', o' + k * 12 + 9, none⟩) hbr).trans r9; have s10 := (hB.cell (p := ⟨b', o' + k * 12 + 10, none⟩) hbr).trans r10; have s11 := (hB.cell (p := ⟨b', o' + k * 12 + 11, none⟩) hbr).trans r11; revert s11; revert s10; revert s9; revert s8; revert s7; revert s6; revert s5; revert s4; revert s3; revert s2; revert s1; revert s0; exact k_.out)) : P := h ⟨k⟩
theorem am157 {P Q : Prop} (k : Q) (h : Hq Q → P := by (intro k_; refine wp_region_kept (w0 := wr) (bs := [#[.int .i64 p.code.perm, .int .i64 p.code.base, .int .i64 p.code.len, .int .i64 p.code.pos, .int .i64 p.code.tag, .bool p.data.is, .int .i64 p.data.n, .int .i64 p.data.key.perm, .int .i64 p.data.key.base, .int .i64 p.data.key.len, .int .i64 p.data.key.pos, .int .i64 p.data.key.tag]]) (by kernel_rfl) (by kernel_rfl) (Kept.mk1 bel (by go_size) (fun o => by simp [go_sem, *]) (fun o => by simp [go_sem, *])) ?_; exact k_.out)) : P := h ⟨k⟩
open Go.RowKit
set_option maxRecDepth 100000
@[go_sem] theorem Frame.eta (k : Frame) : Frame.mk k.code k.data = k := rfl
theorem Frame_eq {x0 : Key} {x1 : Val} {y0 : Key} {y1 : Val} : (Frame.mk x0 x1 = Frame.mk y0 y1) ↔ (x0 = y0 ∧ x1 = y1) := ⟨fun h => Frame.ext_iff'.2 h, fun h => Frame.ext_iff'.1 h⟩
theorem eqf_Frame (d : Nat) (a0 : Int) (a1 : Int) (a2 : Int) (a3 : Int) (a4 : Int) (a5 : Bool) (a6 : Int) (a7 : Int) (a8 : Int) (a9 : Int) (a10 : Int) (a11 : Int) (b0 : Int) (b1 : Int) (b2 : Int) (b3 : Int) (b4 : Int) (b5 : Bool) (b6 : Int) (b7 : Int) (b8 : Int) (b9 : Int) (b10 : Int) (b11 : Int) (w : World) : (Op.equalIn (d + 6) 73 (.agg #[.int .i64 a0, .int .i64 a1, .int .i64 a2, .int .i64 a3, .int .i64 a4, .bool a5, .int .i64 a6, .int .i64 a7, .int .i64 a8, .int .i64 a9, .int .i64 a10, .int .i64 a11]) (.agg #[.int .i64 b0, .int .i64 b1, .int .i64 b2, .int .i64 b3, .int .i64 b4, .bool b5, .int .i64 b6, .int .i64 b7, .int .i64 b8, .int .i64 b9, .int .i64 b10, .int .i64 b11])).run Tryz.prog w = .ok (decide ((Frame.mk (Key.mk a0 a1 a2 a3 a4) (Val.mk a5 a6 (Key.mk a7 a8 a9 a10 a11))) = (Frame.mk (Key.mk b0 b1 b2 b3 b4) (Val.mk b5 b6 (Key.mk b7 b8 b9 b10 b11))))) w := by
  rw [run_equalIn_struct _ _ _ _ _ rfl (by kernel_rfl)]
  simp [go_sem, Frame_eq, eqf_key, eqf_val]
  repeat' split
  all_goals simp_all
@[go_sem high] theorem eql_Frame (a0 : Int) (a1 : Int) (a2 : Int) (a3 : Int) (a4 : Int) (a5 : Bool) (a6 : Int) (a7 : Int) (a8 : Int) (a9 : Int) (a10 : Int) (a11 : Int) (b0 : Int) (b1 : Int) (b2 : Int) (b3 : Int) (b4 : Int) (b5 : Bool) (b6 : Int) (b7 : Int) (b8 : Int) (b9 : Int) (b10 : Int) (b11 : Int) (w : World) : (binOp .eql 73 (.agg #[.int .i64 a0, .int .i64 a1, .int .i64 a2, .int .i64 a3, .int .i64 a4, .bool a5, .int .i64 a6, .int .i64 a7, .int .i64 a8, .int .i64 a9, .int .i64 a10, .int .i64 a11]) (.agg #[.int .i64 b0, .int .i64 b1, .int .i64 b2, .int .i64 b3, .int .i64 b4, .bool b5, .int .i64 b6, .int .i64 b7, .int .i64 b8, .int .i64 b9, .int .i64 b10, .int .i64 b11])).run Tryz.prog w = .ok (.bool (decide ((Frame.mk (Key.mk a0 a1 a2 a3 a4) (Val.mk a5 a6 (Key.mk a7 a8 a9 a10 a11))) = (Frame.mk (Key.mk b0 b1 b2 b3 b4) (Val.mk b5 b6 (Key.mk b7 b8 b9 b10 b11)))))) w := by
  rw [run_eql_struct, eqf_Frame 9994]
  rfl
@[go_sem high] theorem neq_Frame (a0 : Int) (a1 : Int) (a2 : Int) (a3 : Int) (a4 : Int) (a5 : Bool) (a6 : Int) (a7 : Int) (a8 : Int) (a9 : Int) (a10 : Int) (a11 : Int) (b0 : Int) (b1 : Int) (b2 : Int) (b3 : Int) (b4 : Int) (b5 : Bool) (b6 : Int) (b7 : Int) (b8 : Int) (b9 : Int) (b10 : Int) (b11 : Int) (w : World) : (binOp .neq 73 (.agg #[.int .i64 a0, .int .i64 a1, .int .i64 a2, .int .i64 a3, .int .i64 a4, .bool a5, .int .i64 a6, .int .i64 a7, .int .i64 a8, .int .i64 a9, .int .i64 a10, .int .i64 a11]) (.agg #[.int .i64 b0, .int .i64 b1, .int .i64 b2, .int .i64 b3, .int .i64 b4, .bool b5, .int .i64 b6, .int .i64 b7, .int .i64 b8, .int .i64 b9, .int .i64 b10, .int .i64 b11])).run Tryz.prog w = .ok (.bool (!(decide ((Frame.mk (Key.mk a0 a1 a2 a3 a4) (Val.mk a5 a6 (Key.mk a7 a8 a9 a10 a11))) = (Frame.mk (Key.mk b0 b1 b2 b3 b4) (Val.mk b5 b6 (Key.mk b7 b8 b9 b10 b11))))))) w := by
  rw [run_neq_struct, eqf_Frame 9994]
  rfl
set_option maxHeartbeats 4000000 in
theorem r_Eq_F (A A' : Option Addr) (c c' : Nat) (xs ys : List Frame) (w : World) (hx : xs.length < 9223372036854775807) (hL : Lies encF 12 w w.heap.size A xs) (hM : Lies encF 12 w w.heap.size A' ys) :
    Calls Tryz.prog 32 #[.slice A xs.length c, .slice A' ys.length c'] w (Ret (.bool (decide (xs = ys))) w) := by
  by_cases hl : xs.length = ys.length
  · go_enter Tryz.func32, Tryz.ntmps32
    go_wp2
    go_loopw [14] (fun v wr => ∃ k : Nat, v = .int .i64 k ∧ k ≤ xs.length ∧ (∀ j, j < k → xs[j]? = ys[j]?) ∧ Below w.heap.size w wr) (fun v _ => (xs.length - intOf v).toNat)
    case atStart => exact ⟨0, rfl, by omega, fun j hj => by omega, bel⟩
    case round =>
      obtain ⟨k, rfl, hk, hall, hbw⟩ := hrel
      have hbz := hbw.size; have HA := Lib.hid hall; clear hall
      rcases Nat.lt_or_ge k xs.length with hlt | hge
      · obtain ⟨b, o, p, rfl, hb, hp, q0, q1, q2, q3, q4, q5, q6, q7, q8, q9, q10, q11⟩ := (hL.below hbw).cellsF hlt
        obtain ⟨b', o', q, rfl, hb', hq, r0, r1, r2, r3, r4, r5, r6, r7, r8, r9, r10, r11⟩ := (hM.below hbw).cellsF (k := k) (by omega)
        refine am182 ?_; clear hp hq; intro HP HQ hbr hbq e4
        cases hd : decide (p = q)
        · have H := Lib.hid (show decide (xs = ys) = false from decide_eq_false fun h => by
            rw [h, HQ.out] at HP
            exact (show ¬ p = q from of_decide_eq_false hd) (Option.some.inj HP.out).symm)
          go_wp2
          (refine am157 ?_; (repeat (first | go_big_quiet_skip | (go_big_quiet_want; first | (refine BigFrame.quiet_move _ rfl ?_; (simp only [Act.put, Act.eval, n6, n7, n8, n9, n10, n5, n3, n4]); go_big_quiet_on) | (refine BigFrame.quiet_assign _ rfl ?_; (simp only [Act.put, Act.eval, n6, n7, n8, n9, n10, n5, n3, n4]); go_big_quiet_on) | (apply quiet_call; (focus (intro W; go_simp; constructor <;> with_reducible rfl)); (focus (intro W hW; first | fail)); (simp only [Act.put, Act.eval, n6, n7, n8, n9, n10, n5, n3, n4]); go_big_quiet_on) | (apply quiet_run; (focus (intro W hW; obtain ⟨hB, hS, hC, hF⟩ := hW; have c0 := hC 0 _ rfl; have f0 := hF 0 _ rfl; clear hC hF; (try simp only [Nat.add_zero] at c0 f0); (try simp only [List.length_cons, List.length_nil] at hS); have s0 := (hB.cell (p := ⟨b', o' + k * 12, none⟩) hbr).trans r0; have s1 := (hB.cell (p := ⟨b', o' + k * 12 + 1, none⟩) hbr).trans r1; have s2 := (hB.cell (p := ⟨b', o' + k * 12 + 2, none⟩) hbr).trans r2; have s3 := (hB.cell (p := ⟨b', o' + k * 12 + 3, none⟩) hbr).trans r3; have s4 := (hB.cell (p := ⟨b', o' + k * 12 + 4, none⟩) hbr).trans r4; have s5 := (hB.cell (p := ⟨b', o' + k * 12 + 5, none⟩) hbr).trans r5; have s6 := (hB.cell (p := ⟨b', o' + k * 12 + 6, none⟩) hbr).trans r6; have s7 := (hB.cell (p := ⟨b', o' + k * 12 + 7, none⟩) hbr).trans r7; have s8 := (hB.cell (p := ⟨b', o' + k * 12 + 8, none⟩) hbr).trans r8; have s9 := (hB.cell (p := ⟨b', o' + k * 12 + 9, none⟩) hbr).trans r9; have s10 := (hB.cell (p := ⟨b', o' + k * 12 + 10, none⟩) hbr).trans r10; have s11 := (hB.cell (p := ⟨b', o' + k * 12 + 11, none⟩) hbr).trans r11; go_simp; first | done | with_reducible rfl)); (simp only [Act.put, Act.eval, n6, n7, n8, n9, n10, n5, n3, n4]); go_big_quiet_on)))); refine wpQuiet_nil ?_; intro w2 hW; obtain ⟨hB, hS, hC, hF⟩ := hW; have c0 := hC 0 _ rfl; have f0 := hF 0 _ rfl; clear hC hF; (try simp only [Nat.add_zero] at c0 f0); (try simp only [List.length_cons, List.length_nil] at hS); refine am133 ?_; intro s0 s1 s2 s3 s4 s5 s6 s7 s8 s9 s10 s11)
          go_wp2
          go_returns
          exact Ret.bool H.out.symm bel
        · have H := Lib.hid (show p = q from of_decide_eq_true hd)
          go_wp2
          (refine am157 ?_; (repeat (first | go_big_quiet_skip | (go_big_quiet_want; first | (refine BigFrame.quiet_move _ rfl ?_; (simp only [Act.put, Act.eval, n6, n7, n8, n9, n10, n5, n3, n4]); go_big_quiet_on) | (refine BigFrame.quiet_assign _ rfl ?_; (simp only [Act.put, Act.eval, n6, n7, n8, n9, n10, n5, n3, n4]); go_big_quiet_on) | (apply quiet_call; (focus (intro W; go_simp; constructor <;> with_reducible rfl)); (focus (intro W hW; first | fail)); (simp only [Act.put, Act.eval, n6, n7, n8, n9, n10, n5, n3, n4]); go_big_quiet_on) | (apply quiet_run; (focus (intro W hW; obtain ⟨hB, hS, hC, hF⟩ := hW; have c0 := hC 0 _ rfl; have f0 := hF 0 _ rfl; clear hC hF; (try simp only [Nat.add_zero] at c0 f0); (try simp only [List.length_cons, List.length_nil] at hS); have s0 := (hB.cell (p := ⟨b', o' + k * 12, none⟩) hbr).trans r0; have s1 := (hB.cell (p := ⟨b', o' + k * 12 + 1, none⟩) hbr).trans r1; have s2 := (hB.cell (p := ⟨b', o' + k * 12 + 2, none⟩) hbr).trans r2; have s3 := (hB.cell (p := ⟨b', o' + k * 12 + 3, none⟩) hbr).trans r3; have s4 := (hB.cell (p := ⟨b', o' + k * 12 + 4, none⟩) hbr).trans r4; have s5 := (hB.cell (p := ⟨b', o' + k * 12 + 5, none⟩) hbr).trans r5; have s6 := (hB.cell (p := ⟨b', o' + k * 12 + 6, none⟩) hbr).trans r6; have s7 := (hB.cell (p := ⟨b', o' + k * 12 + 7, none⟩) hbr).trans r7; have s8 := (hB.cell (p := ⟨b', o' + k * 12 + 8, none⟩) hbr).trans r8; have s9 := (hB.cell (p := ⟨b', o' + k * 12 + 9, none⟩) hbr).trans r9; have s10 := (hB.cell (p := ⟨b', o' + k * 12 + 10, none⟩) hbr).trans r10; have s11 := (hB.cell (p := ⟨b', o' + k * 12 + 11, none⟩) hbr).trans r11; go_simp; first | done | with_reducible rfl)); (simp only [Act.put, Act.eval, n6, n7, n8, n9, n10, n5, n3, n4]); go_big_quiet_on)))); refine wpQuiet_nil ?_; intro w2 hW; obtain ⟨hB, hS, hC, hF⟩ := hW; have c0 := hC 0 _ rfl; have f0 := hF 0 _ rfl; clear hC hF; (try simp only [Nat.add_zero] at c0 f0); (try simp only [List.length_cons, List.length_nil] at hS); refine am133 ?_; intro s0 s1 s2 s3 s4 s5 s6 s7 s8 s9 s10 s11)
          exact az48
      · exact az61
  · refine am190 ?_; intro H hl'
    go_enter Tryz.func32, Tryz.ntmps32
    go_wp2
    go_returns
    exact Ret.bool H.out.symm bel
set_option maxHeartbeats 4000000 in
theorem r_Eq_I (A A' : Option Addr) (c c' : Nat) (xs ys : List Int) (w : World) (hx : xs.length < 9223372036854775807) (hL : Lies encI 1 w w.heap.size A xs) (hM : Lies encI 1 w w.heap.size A' ys) :
    Calls Tryz.prog 19 #[.slice A xs.length c, .slice A' ys.length c'] w (Ret (.bool (decide (xs = ys))) w) := by
  by_cases hl : xs.length = ys.length
  · go_enter Tryz.func19, Tryz.ntmps19
    go_wp2
    go_loopw [14] (fun v wr => ∃ k : Nat, v = .int .i64 k ∧ k ≤ xs.length ∧ (∀ j, j < k → xs[j]? = ys[j]?) ∧ Below w.heap.size w wr) (fun v _ => (xs.length - intOf v).toNat)
    case atStart => exact ⟨0, rfl, by omega, fun j hj => by omega, bel⟩
    case round =>
      obtain ⟨k, rfl, hk, hall, hbw⟩ := hrel
      have hbz := hbw.size; have HA := Lib.hid hall; clear hall
      rcases Nat.lt_or_ge k xs.length with hlt | hge
      · obtain ⟨b, o, p, rfl, hb, hp, q0⟩ := (hL.below hbw).cellsI hlt
        obtain ⟨b', o', q, rfl, hb', hq, r0⟩ := (hM.below hbw).cellsI (k := k) (by omega)
        refine am182 ?_; clear hp hq; intro HP HQ hbr hbq e4
        cases hd : (p == q)
        · have H := Lib.hid (show decide (xs = ys) = false from decide_eq_false fun h => by
            rw [h, HQ.out] at HP
            exact (show ¬ p = q from by simpa using hd) (Option.some.inj HP.out).symm)
          go_wp2
          go_returns
          exact Ret.bool H.out.symm bel
        · have H := Lib.hid (show p = q from by simpa using hd)
          exact az48
      · exact az61
  · refine am190 ?_; intro H hl'
    go_enter Tryz.func19, Tryz.ntmps19
    go_wp2
    go_returns
    exact Ret.bool H.out.symm bel
end Go.Proofs.YthmpnnfejghhfaaGreatDoor
