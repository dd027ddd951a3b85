/- What the parts say: The reference's ModuleEq on a module twice. Conditions: none. -/
import Derived.Test.YtbkjhdohkdeniaaGreatDoorP41
import Derived.Test.YtbkjhdohkdeniaaGreatDoorP13
set_option linter.unusedVariables false
set_option linter.unusedSimpArgs false
namespace Go.Proofs.YtbkjhdohkdeniaaGreatDoor
open Go.RowKit
set_option maxRecDepth 100000
@[go_sem] theorem Import.eta (k : Import) : Import.mk k.name k.slot = k := rfl
theorem Import_eq {x0 : ByteArray} {x1 : Int} {y0 : ByteArray} {y1 : Int} : (Import.mk x0 x1 = Import.mk y0 y1) ↔ (x0 = y0 ∧ x1 = y1) := ⟨fun h => Import.ext_iff'.2 h, fun h => Import.ext_iff'.1 h⟩
theorem eqf_Import (d : Nat) (a0 : ByteArray) (a1 : Int) (b0 : ByteArray) (b1 : Int) (w : World) : (Op.equalIn (d + 4) 114 (.agg #[.string a0, .int .i64 a1]) (.agg #[.string b0, .int .i64 b1])).run Tryz.prog w = .ok (decide ((Import.mk a0 a1) = (Import.mk b0 b1))) w := by
  rw [run_equalIn_struct _ _ _ _ _ rfl (by kernel_rfl)]
  simp [go_sem, Import_eq, str_beq]
  repeat' split
  all_goals simp_all
@[go_sem high] theorem eql_Import (a0 : ByteArray) (a1 : Int) (b0 : ByteArray) (b1 : Int) (w : World) : (binOp .eql 114 (.agg #[.string a0, .int .i64 a1]) (.agg #[.string b0, .int .i64 b1])).run Tryz.prog w = .ok (.bool (decide ((Import.mk a0 a1) = (Import.mk b0 b1)))) w := by
  rw [run_eql_struct, eqf_Import 9996]
  rfl
@[go_sem high] theorem neq_Import (a0 : ByteArray) (a1 : Int) (b0 : ByteArray) (b1 : Int) (w : World) : (binOp .neq 114 (.agg #[.string a0, .int .i64 a1]) (.agg #[.string b0, .int .i64 b1])).run Tryz.prog w = .ok (.bool (!(decide ((Import.mk a0 a1) = (Import.mk b0 b1))))) w := by
  rw [run_neq_struct, eqf_Import 9996]
  rfl
set_option maxHeartbeats 4000000 in
theorem r_Eq_M (A A' : Option Addr) (c c' : Nat) (xs ys : List Import) (w : World) (hx : xs.length < 9223372036854775807) (hL : Lies encM 2 w w.heap.size A xs) (hM : Lies encM 2 w w.heap.size A' ys) :
    Calls Tryz.prog 46 #[.slice A xs.length c, .slice A' ys.length c'] w (Ret (.bool (decide (xs = ys))) w) := by
  by_cases hl : xs.length = ys.length
  · go_enter Tryz.func46, Tryz.ntmps46
    go_wp2
    go_loopw [14] (fun v wr => ∃ k : Nat, v = .int .i64 k ∧ k ≤ xs.length ∧ (∀ j, j < k → xs[j]? = ys[j]?) ∧ Below w.heap.size w wr) (fun v _ => (xs.length - intOf v).toNat)
    case atStart => exact ⟨0, rfl, by omega, fun j hj => by omega, by (repeat' (first | (with_reducible exact Below.refl _ _) | (with_reducible assumption) | (with_reducible refine Below.alloc ?_ ?_ _) | (with_reducible refine Below.drew ?_) | (with_reducible refine Below.setCell ?_ ?_ _) | (refine Below.trans ?_ (Below.mono (by with_reducible assumption) ?_)) | go_size))⟩
    case round =>
      obtain ⟨k, rfl, hk, hall, hbw⟩ := hrel
      have hbz := hbw.size
      have HA := Lib.hid hall
      clear hall
      rcases Nat.lt_or_ge k xs.length with hlt | hge
      · obtain ⟨b, o, p, rfl, hb, hp, q0, q1⟩ := (hL.below hbw).cellsM hlt
        obtain ⟨b', o', q, rfl, hb', hq, r0, r1⟩ := (hM.below hbw).cellsM (k := k) (by omega)
        have HP := Lib.hid hp
        have HQ := Lib.hid hq
        clear hp hq
        have hbr : b' < wr.heap.size := by omega
        have hbq : b < wr.heap.size := by omega
        have e4 : (0 ≤ (k : Int) ∧ (k : Int) < ys.length) := by omega
        cases hd : decide (p = q)
        · have H := Lib.hid (show decide (xs = ys) = false from decide_eq_false fun h => by
            rw [h, HQ.out] at HP
            exact (show ¬ p = q from of_decide_eq_false hd) (Option.some.inj HP.out).symm)
          go_wp2
          (refine wp_region_kept (w0 := wr) (bs := [#[.string p.name, .int .i64 p.slot]]) (by kernel_rfl) (by kernel_rfl) (Kept.mk1 (by (repeat' (first | (with_reducible exact Below.refl _ _) | (with_reducible assumption) | (with_reducible refine Below.alloc ?_ ?_ _) | (with_reducible refine Below.drew ?_) | (with_reducible refine Below.setCell ?_ ?_ _) | (refine Below.trans ?_ (Below.mono (by with_reducible assumption) ?_)) | go_size))) (by go_size) (fun o => by simp [go_sem, *]) (fun o => by simp [go_sem, *])) ?_; (repeat (first | go_big_quiet_skip | (go_big_quiet_want; first | (refine BigFrame.quiet_move _ rfl ?_; (simp only [Act.put, Act.eval, Array.getD_eq_getD_getElem?, List.getElem?_toArray, List.getElem?_cons_zero, List.getElem?_cons_succ, Option.getD_some, List.setIfInBounds_toArray, List.set_cons_zero, List.set_cons_succ]); go_big_quiet_on) | (refine BigFrame.quiet_assign _ rfl ?_; (simp only [Act.put, Act.eval, Array.getD_eq_getD_getElem?, List.getElem?_toArray, List.getElem?_cons_zero, List.getElem?_cons_succ, Option.getD_some, List.setIfInBounds_toArray, List.set_cons_zero, List.set_cons_succ]); go_big_quiet_on) | (apply quiet_call; (focus (intro W; go_simp; constructor <;> with_reducible rfl)); (focus (intro W hW; first | fail)); (simp only [Act.put, Act.eval, Array.getD_eq_getD_getElem?, List.getElem?_toArray, List.getElem?_cons_zero, List.getElem?_cons_succ, Option.getD_some, List.setIfInBounds_toArray, List.set_cons_zero, List.set_cons_succ]); go_big_quiet_on) | (apply quiet_run; (focus (intro W hW; obtain ⟨hB, hS, hC, hF⟩ := hW; have c0 := hC 0 _ rfl; have f0 := hF 0 _ rfl; clear hC hF; (try simp only [Nat.add_zero] at c0 f0); (try simp only [List.length_cons, List.length_nil] at hS); have s0 := (hB.cell (p := ⟨b', o' + k * 2, none⟩) hbr).trans r0; have s1 := (hB.cell (p := ⟨b', o' + k * 2 + 1, none⟩) hbr).trans r1; go_simp; first | done | with_reducible rfl)); (simp only [Act.put, Act.eval, Array.getD_eq_getD_getElem?, List.getElem?_toArray, List.getElem?_cons_zero, List.getElem?_cons_succ, Option.getD_some, List.setIfInBounds_toArray, List.set_cons_zero, List.set_cons_succ]); go_big_quiet_on)))); refine wpQuiet_nil ?_; intro w2 hW; obtain ⟨hB, hS, hC, hF⟩ := hW; have c0 := hC 0 _ rfl; have f0 := hF 0 _ rfl; clear hC hF; (try simp only [Nat.add_zero] at c0 f0); (try simp only [List.length_cons, List.length_nil] at hS); have s0 := (hB.cell (p := ⟨b', o' + k * 2, none⟩) hbr).trans r0; have s1 := (hB.cell (p := ⟨b', o' + k * 2 + 1, none⟩) hbr).trans r1)
          go_wp2
          go_returns
          exact Ret.bool H.out.symm (by (repeat' (first | (with_reducible exact Below.refl _ _) | (with_reducible assumption) | (with_reducible refine Below.alloc ?_ ?_ _) | (with_reducible refine Below.drew ?_) | (with_reducible refine Below.setCell ?_ ?_ _) | (refine Below.trans ?_ (Below.mono (by with_reducible assumption) ?_)) | go_size)))
        · have H := Lib.hid (show p = q from of_decide_eq_true hd)
          go_wp2
          (refine wp_region_kept (w0 := wr) (bs := [#[.string p.name, .int .i64 p.slot]]) (by kernel_rfl) (by kernel_rfl) (Kept.mk1 (by (repeat' (first | (with_reducible exact Below.refl _ _) | (with_reducible assumption) | (with_reducible refine Below.alloc ?_ ?_ _) | (with_reducible refine Below.drew ?_) | (with_reducible refine Below.setCell ?_ ?_ _) | (refine Below.trans ?_ (Below.mono (by with_reducible assumption) ?_)) | go_size))) (by go_size) (fun o => by simp [go_sem, *]) (fun o => by simp [go_sem, *])) ?_; (repeat (first | go_big_quiet_skip | (go_big_quiet_want; first | (refine BigFrame.quiet_move _ rfl ?_; (simp only [Act.put, Act.eval, Array.getD_eq_getD_getElem?, List.getElem?_toArray, List.getElem?_cons_zero, List.getElem?_cons_succ, Option.getD_some, List.setIfInBounds_toArray, List.set_cons_zero, List.set_cons_succ]); go_big_quiet_on) | (refine BigFrame.quiet_assign _ rfl ?_; (simp only [Act.put, Act.eval, Array.getD_eq_getD_getElem?, List.getElem?_toArray, List.getElem?_cons_zero, List.getElem?_cons_succ, Option.getD_some, List.setIfInBounds_toArray, List.set_cons_zero, List.set_cons_succ]); go_big_quiet_on) | (apply quiet_call; (focus (intro W; go_simp; constructor <;> with_reducible rfl)); (focus (intro W hW; first | fail)); (simp only [Act.put, Act.eval, Array.getD_eq_getD_getElem?, List.getElem?_toArray, List.getElem?_cons_zero, List.getElem?_cons_succ, Option.getD_some, List.setIfInBounds_toArray, List.set_cons_zero, List.set_cons_succ]); go_big_quiet_on) | (apply quiet_run; (focus (intro W hW; obtain ⟨hB, hS, hC, hF⟩ := hW; have c0 := hC 0 _ rfl; have f0 := hF 0 _ rfl; clear hC hF; (try simp only [Nat.add_zero] at c0 f0); (try simp only [List.length_cons, List.length_nil] at hS); have s0 := (hB.cell (p := ⟨b', o' + k * 2, none⟩) hbr).trans r0; have s1 := (hB.cell (p := ⟨b', o' + k * 2 + 1, none⟩) hbr).trans r1; go_simp; first | done | with_reducible rfl)); (simp only [Act.put, Act.eval, Array.getD_eq_getD_getElem?, List.getElem?_toArray, List.getElem?_cons_zero, List.getElem?_cons_succ, Option.getD_some, List.setIfInBounds_toArray, List.set_cons_zero, List.set_cons_succ]); go_big_quiet_on)))); refine wpQuiet_nil ?_; intro w2 hW; obtain ⟨hB, hS, hC, hF⟩ := hW; have c0 := hC 0 _ rfl; have f0 := hF 0 _ rfl; clear hC hF; (try simp only [Nat.add_zero] at c0 f0); (try simp only [List.length_cons, List.length_nil] at hS); have s0 := (hB.cell (p := ⟨b', o' + k * 2, none⟩) hbr).trans r0; have s1 := (hB.cell (p := ⟨b', o' + k * 2 + 1, none⟩) hbr).trans r1)
          go_wp2
          go_roundw
          case rel =>
            refine ⟨k + 1, by go_num, by omega, fun j hj => ?_, by (repeat' (first | (with_reducible exact Below.refl _ _) | (with_reducible assumption) | (with_reducible refine Below.alloc ?_ ?_ _) | (with_reducible refine Below.drew ?_) | (with_reducible refine Below.setCell ?_ ?_ _) | (refine Below.trans ?_ (Below.mono (by with_reducible assumption) ?_)) | go_size))⟩
            rcases Nat.lt_or_ge j k with h | h
            · exact HA.out j h
            · obtain rfl : j = k := by omega
              rw [HP.out, HQ.out, H.out]
          case measure => simp [intOf]; omega
      · have H := Lib.hid (show decide (xs = ys) = true from decide_eq_true (eqOfAll hl fun j hj => HA.out j (by omega)))
        go_wp2
        go_returns
        exact Ret.bool H.out.symm (by (repeat' (first | (with_reducible exact Below.refl _ _) | (with_reducible assumption) | (with_reducible refine Below.alloc ?_ ?_ _) | (with_reducible refine Below.drew ?_) | (with_reducible refine Below.setCell ?_ ?_ _) | (refine Below.trans ?_ (Below.mono (by with_reducible assumption) ?_)) | go_size)))
  · have H := Lib.hid (show decide (xs = ys) = false from decide_eq_false fun h => hl (by rw [h]))
    have hl' : ¬((xs.length : Int) = ys.length) := by omega
    go_enter Tryz.func46, Tryz.ntmps46
    go_wp2
    go_returns
    exact Ret.bool H.out.symm (by (repeat' (first | (with_reducible exact Below.refl _ _) | (with_reducible assumption) | (with_reducible refine Below.alloc ?_ ?_ _) | (with_reducible refine Below.drew ?_) | (with_reducible refine Below.setCell ?_ ?_ _) | (refine Below.trans ?_ (Below.mono (by with_reducible assumption) ?_)) | go_size)))
set_option maxHeartbeats 2000000 in
theorem r_ModEq (mv mv' : Value) (m : Mod) (w : World) (hl : m.code.length ≤ 255 ∧ m.data.length ≤ 255 ∧ m.exports.length ≤ 255 ∧ m.imports.length ≤ 255) (h : ModV w w.heap.size mv m) (h' : ModV w w.heap.size mv' m) : Calls Tryz.prog 16 #[mv, mv'] w (Ret (.bool true) w) := by
  obtain ⟨A, D, E, I, a, d, e, i, rfl, -, -, -, -, -, -, -, -, hA, hD, hE, hIm⟩ := h.ex
  obtain ⟨A', D', E', I', a', d', e', i', rfl, -, -, -, -, -, -, -, -, hA', hD', hE', hIm'⟩ := h'.ex
  obtain ⟨l1, l2, l3, l4⟩ := hl
  have H1 := Lib.hid (fun w hL hM => r_Eq_I A A' a a' m.code m.code w (by omega) hL hM)
  have H2 := Lib.hid (fun w hL hM => r_Eq_I D D' d d' m.data m.data w (by omega) hL hM)
  have H3 := Lib.hid (fun w hL hM => r_Eq_L E E' e e' m.exports m.exports w (by omega) hL hM)
  have H4 := Lib.hid (fun w hL hM => r_Eq_M I I' i i' m.imports m.imports w (by omega) hL hM)
  rw [decide_eq_true rfl] at H1 H2 H3 H4
  have HA := Lib.hid hA
  have HA' := Lib.hid hA'
  have HD := Lib.hid hD
  have HD' := Lib.hid hD'
  have HE := Lib.hid hE
  have HE' := Lib.hid hE'
  have HM := Lib.hid hIm
  have HM' := Lib.hid hIm'
  clear h h' hA hA' hD hD' hE hE' hIm hIm'
  have hI := Inv.start w
  have m1 : True := trivial
  go_enter Tryz.func16, Tryz.ntmps16
  go_wp2_with (first
    | (refine listI rfl fun K hK => wpI_box _ _ rfl hI rfl fun gx w' hI' hb => hK _ _ ?_; clear hK K; (try clear hb); clear hI; have hI := hI'; clear hI'; (try simp only [mm, Act.put, Act.eval] at hI); (try clear c0); (try clear c1); (try clear c2); (try clear c3); (try clear c4); (try clear c5); (try have c0 := hI.cell (i := 0) rfl); (try have c1 := hI.cell (i := 1) rfl); (try have c2 := hI.cell (i := 2) rfl); (try have c3 := hI.cell (i := 3) rfl); (try have c4 := hI.cell (i := 4) rfl); (try have c5 := hI.cell (i := 5) rfl); skip) | (refine listI rfl fun K hK => wpI_box1 _ _ rfl hI rfl rfl fun gx w' hI' hb => hK _ _ ?_; clear hK K; (try clear hb); clear hI; have hI := hI'; clear hI'; (try simp only [mm, Act.put, Act.eval] at hI); (try clear c0); (try clear c1); (try clear c2); (try clear c3); (try clear c4); (try clear c5); (try have c0 := hI.cell (i := 0) rfl); (try have c1 := hI.cell (i := 1) rfl); (try have c2 := hI.cell (i := 2) rfl); (try have c3 := hI.cell (i := 3) rfl); (try have c4 := hI.cell (i := 4) rfl); (try have c5 := hI.cell (i := 5) rfl); skip)
    | (have hq := m1; clear m1 hq; go_at_call 12; refine (H1.out _ (hI.lies HA.out) (hI.lies HA'.out)).mono ?_; intro e w' hr; obtain ⟨rfl, hb⟩ := hr; have hI' := hI.on hb; (try clear hb); clear hI; have hI := hI'; clear hI'; (try simp only [mm, Act.put, Act.eval] at hI); (try clear c0); (try clear c1); (try clear c2); (try clear c3); (try clear c4); (try clear c5); (try have c0 := hI.cell (i := 0) rfl); (try have c1 := hI.cell (i := 1) rfl); (try have c2 := hI.cell (i := 2) rfl); (try have c3 := hI.cell (i := 3) rfl); (try have c4 := hI.cell (i := 4) rfl); (try have c5 := hI.cell (i := 5) rfl); skip)
    | (go_at_call 12; refine (H2.out _ (hI.lies HD.out) (hI.lies HD'.out)).mono ?_; intro e w' hr; obtain ⟨rfl, hb⟩ := hr; have hI' := hI.on hb; (try clear hb); clear hI; have hI := hI'; clear hI'; (try simp only [mm, Act.put, Act.eval] at hI); (try clear c0); (try clear c1); (try clear c2); (try clear c3); (try clear c4); (try clear c5); (try have c0 := hI.cell (i := 0) rfl); (try have c1 := hI.cell (i := 1) rfl); (try have c2 := hI.cell (i := 2) rfl); (try have c3 := hI.cell (i := 3) rfl); (try have c4 := hI.cell (i := 4) rfl); (try have c5 := hI.cell (i := 5) rfl); skip)
    | (go_at_call 13; (with_reducible refine (H3.out _ (hI.lies HE.out) (hI.lies HE'.out)).mono ?_); intro e w' hr; obtain ⟨rfl, hb⟩ := hr; have hI' := hI.on hb; (try clear hb); clear hI; have hI := hI'; clear hI'; (try simp only [mm, Act.put, Act.eval] at hI); (try clear c0); (try clear c1); (try clear c2); (try clear c3); (try clear c4); (try clear c5); (try have c0 := hI.cell (i := 0) rfl); (try have c1 := hI.cell (i := 1) rfl); (try have c2 := hI.cell (i := 2) rfl); (try have c3 := hI.cell (i := 3) rfl); (try have c4 := hI.cell (i := 4) rfl); (try have c5 := hI.cell (i := 5) rfl); skip)
    | (go_at_call 46; (with_reducible refine (H4.out _ (hI.lies HM.out) (hI.lies HM'.out)).mono ?_); intro e w' hr; obtain ⟨rfl, hb⟩ := hr; have hI' := hI.on hb; (try clear hb); clear hI; have hI := hI'; clear hI'; (try simp only [mm, Act.put, Act.eval] at hI); (try clear c0); (try clear c1); (try clear c2); (try clear c3); (try clear c4); (try clear c5); (try have c0 := hI.cell (i := 0) rfl); (try have c1 := hI.cell (i := 1) rfl); (try have c2 := hI.cell (i := 2) rfl); (try have c3 := hI.cell (i := 3) rfl); (try have c4 := hI.cell (i := 4) rfl); (try have c5 := hI.cell (i := 5) rfl); skip)
    | fail)
  go_returns
  exact ⟨rfl, hI.below⟩
end Go.Proofs.YtbkjhdohkdeniaaGreatDoor
