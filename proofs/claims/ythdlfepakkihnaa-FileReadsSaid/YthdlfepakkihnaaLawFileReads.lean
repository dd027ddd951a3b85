/- Eq of the reference on lists of values: as the plain data are. Conditions: none. Two modules are the same: the reference's Eq on numbers, labels, imports; ModuleEq. Conditions: none. The law FileReads: Read returns what the reference returns, for all arguments. Conditions: none. -/
import Derived.Test.YthdlfepakkihnaaOwnSet
import Derived.Test.YthdlfepakkihnaaEq
import Derived.Test.YthdlfepakkihnaaFileV
import Derived.Test.YthdlfepakkihnaaFileZ
import Derived.Test.YthdlfepakkihnaaLaw
namespace Go.Proofs.Ythdlfepakkihnaa
open Go.RowKit
set_option linter.unusedVariables false
set_option linter.unusedSimpArgs false
set_option maxRecDepth 100000
set_option maxHeartbeats 4000000 in
theorem r_Eq_V (A A' : Option Addr) (c c' : Nat) (xs ys : List Val) (w : World) (hx : xs.length < 9223372036854775807) (hL : Lies encV 7 w w.heap.size A xs) (hM : Lies encV 7 w w.heap.size A' ys) :
    Calls Try.prog 16 #[.slice A xs.length c, .slice A' ys.length c'] w (Ret (.bool (decide (xs = ys))) w) := by
  by_cases hl : xs.length = ys.length
  · go_enter Try.func16, Try.ntmps16
    go_wp2
    go_loopw [14] (fun v wr => ∃ k : Nat, v = .int .i64 k ∧ k ≤ xs.length ∧ (∀ j, j < k → xs[j]? = ys[j]?) ∧ Below w.heap.size w wr) (fun v _ => (xs.length - intOf v).toNat)
    case atStart => exact ⟨0, rfl, by omega, fun j hj => by omega, by (repeat' (first | (with_reducible exact Below.refl _ _) | (with_reducible assumption) | (with_reducible refine Below.alloc ?_ ?_ _) | (with_reducible refine Below.drew ?_) | (with_reducible refine Below.setCell ?_ ?_ _) | (refine Below.trans ?_ (Below.mono (by with_reducible assumption) ?_)) | go_size))⟩
    case round =>
      obtain ⟨k, rfl, hk, hall, hbw⟩ := hrel
      have hbz := hbw.size
      have HA := Lib.hid hall
      clear hall
      rcases Nat.lt_or_ge k xs.length with hlt | hge
      · obtain ⟨b, o, p, rfl, hb, hp, q0, q1, q2, q3, q4, q5, q6⟩ := (hL.below hbw).cellsV hlt
        obtain ⟨b', o', q, rfl, hb', hq, r0, r1, r2, r3, r4, r5, r6⟩ := (hM.below hbw).cellsV (k := k) (by omega)
        have HP := Lib.hid hp
        have HQ := Lib.hid hq
        clear hp hq
        have hbr : b' < wr.heap.size := by omega
        have hbq : b < wr.heap.size := by omega
        have e4 : (0 ≤ (k : Int) ∧ (k : Int) < ys.length) := by omega
        cases hd : decide (p = q)
        · have H := Lib.hid (show decide (xs = ys) = false from decide_eq_false fun h => by
            rw [h, HQ.out] at HP
            exact (show ¬ p = q from of_decide_eq_false hd) (Option.some.inj HP.out).symm)
          go_wp2
          (refine wp_region_kept (w0 := wr) (bs := [#[.bool p.is, .int .i64 p.n, .int .i64 p.key.perm, .int .i64 p.key.base, .int .i64 p.key.len, .int .i64 p.key.pos, .int .i64 p.key.tag]]) (by kernel_rfl) (by kernel_rfl) (Kept.mk1 (by (repeat' (first | (with_reducible exact Below.refl _ _) | (with_reducible assumption) | (with_reducible refine Below.alloc ?_ ?_ _) | (with_reducible refine Below.drew ?_) | (with_reducible refine Below.setCell ?_ ?_ _) | (refine Below.trans ?_ (Below.mono (by with_reducible assumption) ?_)) | go_size))) (by go_size) (fun o => by simp [go_sem, *]) (fun o => by simp [go_sem, *])) ?_; (repeat (first | go_big_quiet_skip | (go_big_quiet_want; first | (refine BigFrame.quiet_move _ rfl ?_; (simp only [Act.put, Act.eval, Array.getD_eq_getD_getElem?, List.getElem?_toArray, List.getElem?_cons_zero, List.getElem?_cons_succ, Option.getD_some, List.setIfInBounds_toArray, List.set_cons_zero, List.set_cons_succ]); go_big_quiet_on) | (refine BigFrame.quiet_assign _ rfl ?_; (simp only [Act.put, Act.eval, Array.getD_eq_getD_getElem?, List.getElem?_toArray, List.getElem?_cons_zero, List.getElem?_cons_succ, Option.getD_some, List.setIfInBounds_toArray, List.set_cons_zero, List.set_cons_succ]); go_big_quiet_on) | (apply quiet_call; (focus (intro W; go_simp; constructor <;> with_reducible rfl)); (focus (intro W hW; first | fail)); (simp only [Act.put, Act.eval, Array.getD_eq_getD_getElem?, List.getElem?_toArray, List.getElem?_cons_zero, List.getElem?_cons_succ, Option.getD_some, List.setIfInBounds_toArray, List.set_cons_zero, List.set_cons_succ]); go_big_quiet_on) | (apply quiet_run; (focus (intro W hW; obtain ⟨hB, hS, hC, hF⟩ := hW; have c0 := hC 0 _ rfl; have f0 := hF 0 _ rfl; clear hC hF; (try simp only [Nat.add_zero] at c0 f0); (try simp only [List.length_cons, List.length_nil] at hS); have s0 := (hB.cell (p := ⟨b', o' + k * 7, none⟩) hbr).trans r0; have s1 := (hB.cell (p := ⟨b', o' + k * 7 + 1, none⟩) hbr).trans r1; have s2 := (hB.cell (p := ⟨b', o' + k * 7 + 2, none⟩) hbr).trans r2; have s3 := (hB.cell (p := ⟨b', o' + k * 7 + 3, none⟩) hbr).trans r3; have s4 := (hB.cell (p := ⟨b', o' + k * 7 + 4, none⟩) hbr).trans r4; have s5 := (hB.cell (p := ⟨b', o' + k * 7 + 5, none⟩) hbr).trans r5; have s6 := (hB.cell (p := ⟨b', o' + k * 7 + 6, none⟩) hbr).trans r6; go_simp; first | done | with_reducible rfl)); (simp only [Act.put, Act.eval, Array.getD_eq_getD_getElem?, List.getElem?_toArray, List.getElem?_cons_zero, List.getElem?_cons_succ, Option.getD_some, List.setIfInBounds_toArray, List.set_cons_zero, List.set_cons_succ]); go_big_quiet_on)))); refine wpQuiet_nil ?_; intro w2 hW; obtain ⟨hB, hS, hC, hF⟩ := hW; have c0 := hC 0 _ rfl; have f0 := hF 0 _ rfl; clear hC hF; (try simp only [Nat.add_zero] at c0 f0); (try simp only [List.length_cons, List.length_nil] at hS); have s0 := (hB.cell (p := ⟨b', o' + k * 7, none⟩) hbr).trans r0; have s1 := (hB.cell (p := ⟨b', o' + k * 7 + 1, none⟩) hbr).trans r1; have s2 := (hB.cell (p := ⟨b', o' + k * 7 + 2, none⟩) hbr).trans r2; have s3 := (hB.cell (p := ⟨b', o' + k * 7 + 3, none⟩) hbr).trans r3; have s4 := (hB.cell (p := ⟨b', o' + k * 7 + 4, none⟩) hbr).trans r4; have s5 := (hB.cell (p := ⟨b', o' + k * 7 + 5, none⟩) hbr).trans r5; have s6 := (hB.cell (p := ⟨b', o' + k * 7 + 6, none⟩) hbr).trans r6)
          go_wp2
          go_returns
          exact Ret.bool H.out.symm (by (repeat' (first | (with_reducible exact Below.refl _ _) | (with_reducible assumption) | (with_reducible refine Below.alloc ?_ ?_ _) | (with_reducible refine Below.drew ?_) | (with_reducible refine Below.setCell ?_ ?_ _) | (refine Below.trans ?_ (Below.mono (by with_reducible assumption) ?_)) | go_size)))
        · have H := Lib.hid (show p = q from of_decide_eq_true hd)
          go_wp2
          (refine wp_region_kept (w0 := wr) (bs := [#[.bool p.is, .int .i64 p.n, .int .i64 p.key.perm, .int .i64 p.key.base, .int .i64 p.key.len, .int .i64 p.key.pos, .int .i64 p.key.tag]]) (by kernel_rfl) (by kernel_rfl) (Kept.mk1 (by (repeat' (first | (with_reducible exact Below.refl _ _) | (with_reducible assumption) | (with_reducible refine Below.alloc ?_ ?_ _) | (with_reducible refine Below.drew ?_) | (with_reducible refine Below.setCell ?_ ?_ _) | (refine Below.trans ?_ (Below.mono (by with_reducible assumption) ?_)) | go_size))) (by go_size) (fun o => by simp [go_sem, *]) (fun o => by simp [go_sem, *])) ?_; (repeat (first | go_big_quiet_skip | (go_big_quiet_want; first | (refine BigFrame.quiet_move _ rfl ?_; (simp only [Act.put, Act.eval, Array.getD_eq_getD_getElem?, List.getElem?_toArray, List.getElem?_cons_zero, List.getElem?_cons_succ, Option.getD_some, List.setIfInBounds_toArray, List.set_cons_zero, List.set_cons_succ]); go_big_quiet_on) | (refine BigFrame.quiet_assign _ rfl ?_; (simp only [Act.put, Act.eval, Array.getD_eq_getD_getElem?, List.getElem?_toArray, List.getElem?_cons_zero, List.getElem?_cons_succ, Option.getD_some, List.setIfInBounds_toArray, List.set_cons_zero, List.set_cons_succ]); go_big_quiet_on) | (apply quiet_call; (focus (intro W; go_simp; constructor <;> with_reducible rfl)); (focus (intro W hW; first | fail)); (simp only [Act.put, Act.eval, Array.getD_eq_getD_getElem?, List.getElem?_toArray, List.getElem?_cons_zero, List.getElem?_cons_succ, Option.getD_some, List.setIfInBounds_toArray, List.set_cons_zero, List.set_cons_succ]); go_big_quiet_on) | (apply quiet_run; (focus (intro W hW; obtain ⟨hB, hS, hC, hF⟩ := hW; have c0 := hC 0 _ rfl; have f0 := hF 0 _ rfl; clear hC hF; (try simp only [Nat.add_zero] at c0 f0); (try simp only [List.length_cons, List.length_nil] at hS); have s0 := (hB.cell (p := ⟨b', o' + k * 7, none⟩) hbr).trans r0; have s1 := (hB.cell (p := ⟨b', o' + k * 7 + 1, none⟩) hbr).trans r1; have s2 := (hB.cell (p := ⟨b', o' + k * 7 + 2, none⟩) hbr).trans r2; have s3 := (hB.cell (p := ⟨b', o' + k * 7 + 3, none⟩) hbr).trans r3; have s4 := (hB.cell (p := ⟨b', o' + k * 7 + 4, none⟩) hbr).trans r4; have s5 := (hB.cell (p := ⟨b', o' + k * 7 + 5, none⟩) hbr).trans r5; have s6 := (hB.cell (p := ⟨b', o' + k * 7 + 6, none⟩) hbr).trans r6; go_simp; first | done | with_reducible rfl)); (simp only [Act.put, Act.eval, Array.getD_eq_getD_getElem?, List.getElem?_toArray, List.getElem?_cons_zero, List.getElem?_cons_succ, Option.getD_some, List.setIfInBounds_toArray, List.set_cons_zero, List.set_cons_succ]); go_big_quiet_on)))); refine wpQuiet_nil ?_; intro w2 hW; obtain ⟨hB, hS, hC, hF⟩ := hW; have c0 := hC 0 _ rfl; have f0 := hF 0 _ rfl; clear hC hF; (try simp only [Nat.add_zero] at c0 f0); (try simp only [List.length_cons, List.length_nil] at hS); have s0 := (hB.cell (p := ⟨b', o' + k * 7, none⟩) hbr).trans r0; have s1 := (hB.cell (p := ⟨b', o' + k * 7 + 1, none⟩) hbr).trans r1; have s2 := (hB.cell (p := ⟨b', o' + k * 7 + 2, none⟩) hbr).trans r2; have s3 := (hB.cell (p := ⟨b', o' + k * 7 + 3, none⟩) hbr).trans r3; have s4 := (hB.cell (p := ⟨b', o' + k * 7 + 4, none⟩) hbr).trans r4; have s5 := (hB.cell (p := ⟨b', o' + k * 7 + 5, none⟩) hbr).trans r5; have s6 := (hB.cell (p := ⟨b', o' + k * 7 + 6, none⟩) hbr).trans r6)
          go_wp2
          go_roundw
          case rel =>
            refine ⟨k + 1, by go_num, by omega, fun j hj => ?_, by (repeat' (first | (with_reducible exact Below.refl _ _) | (with_reducible assumption) | (with_reducible refine Below.alloc ?_ ?_ _) | (with_reducible refine Below.drew ?_) | (with_reducible refine Below.setCell ?_ ?_ _) | (refine Below.trans ?_ (Below.mono (by with_reducible assumption) ?_)) | go_size))⟩
            rcases Nat.lt_or_ge j k with h | h
            · exact HA.out j h
            · obtain rfl : j = k := by omega
              rw [HP.out, HQ.out, H.out]
          case measure => simp [intOf]; omega
      · have H := Lib.hid (show decide (xs = ys) = true from decide_eq_true (eqOfAll hl fun j hj => HA.out j (by omega)))
        go_wp2
        go_returns
        exact Ret.bool H.out.symm (by (repeat' (first | (with_reducible exact Below.refl _ _) | (with_reducible assumption) | (with_reducible refine Below.alloc ?_ ?_ _) | (with_reducible refine Below.drew ?_) | (with_reducible refine Below.setCell ?_ ?_ _) | (refine Below.trans ?_ (Below.mono (by with_reducible assumption) ?_)) | go_size)))
  · have H := Lib.hid (show decide (xs = ys) = false from decide_eq_false fun h => hl (by rw [h]))
    have hl' : ¬((xs.length : Int) = ys.length) := by omega
    go_enter Try.func16, Try.ntmps16
    go_wp2
    go_returns
    exact Ret.bool H.out.symm (by (repeat' (first | (with_reducible exact Below.refl _ _) | (with_reducible assumption) | (with_reducible refine Below.alloc ?_ ?_ _) | (with_reducible refine Below.drew ?_) | (with_reducible refine Below.setCell ?_ ?_ _) | (refine Below.trans ?_ (Below.mono (by with_reducible assumption) ?_)) | go_size)))
end Go.Proofs.Ythdlfepakkihnaa
namespace Go.Proofs.Ythdlfepakkihnaa
open Go.RowKit
set_option linter.unusedVariables false
set_option linter.unusedSimpArgs false
set_option maxRecDepth 100000
@[go_sem] theorem Label.eta (k : Label) : Label.mk k.name k.pos = k := rfl
theorem Label_eq {x0 : ByteArray} {x1 : Int} {y0 : ByteArray} {y1 : Int} : (Label.mk x0 x1 = Label.mk y0 y1) ↔ (x0 = y0 ∧ x1 = y1) := ⟨fun h => Label.ext_iff'.2 h, fun h => Label.ext_iff'.1 h⟩
theorem eqf_Label (d : Nat) (a0 : ByteArray) (a1 : Int) (b0 : ByteArray) (b1 : Int) (w : World) : (Op.equalIn (d + 4) 47 (.agg #[.string a0, .int .i64 a1]) (.agg #[.string b0, .int .i64 b1])).run Try.prog w = .ok (decide ((Label.mk a0 a1) = (Label.mk b0 b1))) w := by
  rw [run_equalIn_struct _ _ _ _ _ rfl (by kernel_rfl)]
  simp [go_sem, Label_eq, str_beq]
  repeat' split
  all_goals simp_all
@[go_sem high] theorem eql_Label (a0 : ByteArray) (a1 : Int) (b0 : ByteArray) (b1 : Int) (w : World) : (binOp .eql 47 (.agg #[.string a0, .int .i64 a1]) (.agg #[.string b0, .int .i64 b1])).run Try.prog w = .ok (.bool (decide ((Label.mk a0 a1) = (Label.mk b0 b1)))) w := by
  rw [run_eql_struct, eqf_Label 9996]
  rfl
@[go_sem high] theorem neq_Label (a0 : ByteArray) (a1 : Int) (b0 : ByteArray) (b1 : Int) (w : World) : (binOp .neq 47 (.agg #[.string a0, .int .i64 a1]) (.agg #[.string b0, .int .i64 b1])).run Try.prog w = .ok (.bool (!(decide ((Label.mk a0 a1) = (Label.mk b0 b1))))) w := by
  rw [run_neq_struct, eqf_Label 9996]
  rfl
@[go_sem] theorem Import.eta (k : Import) : Import.mk k.name k.slot = k := rfl
theorem Import_eq {x0 : ByteArray} {x1 : Int} {y0 : ByteArray} {y1 : Int} : (Import.mk x0 x1 = Import.mk y0 y1) ↔ (x0 = y0 ∧ x1 = y1) := ⟨fun h => Import.ext_iff'.2 h, fun h => Import.ext_iff'.1 h⟩
theorem eqf_Import (d : Nat) (a0 : ByteArray) (a1 : Int) (b0 : ByteArray) (b1 : Int) (w : World) : (Op.equalIn (d + 4) 84 (.agg #[.string a0, .int .i64 a1]) (.agg #[.string b0, .int .i64 b1])).run Try.prog w = .ok (decide ((Import.mk a0 a1) = (Import.mk b0 b1))) w := by
  rw [run_equalIn_struct _ _ _ _ _ rfl (by kernel_rfl)]
  simp [go_sem, Import_eq, str_beq]
  repeat' split
  all_goals simp_all
@[go_sem high] theorem eql_Import (a0 : ByteArray) (a1 : Int) (b0 : ByteArray) (b1 : Int) (w : World) : (binOp .eql 84 (.agg #[.string a0, .int .i64 a1]) (.agg #[.string b0, .int .i64 b1])).run Try.prog w = .ok (.bool (decide ((Import.mk a0 a1) = (Import.mk b0 b1)))) w := by
  rw [run_eql_struct, eqf_Import 9996]
  rfl
@[go_sem high] theorem neq_Import (a0 : ByteArray) (a1 : Int) (b0 : ByteArray) (b1 : Int) (w : World) : (binOp .neq 84 (.agg #[.string a0, .int .i64 a1]) (.agg #[.string b0, .int .i64 b1])).run Try.prog w = .ok (.bool (!(decide ((Import.mk a0 a1) = (Import.mk b0 b1))))) w := by
  rw [run_neq_struct, eqf_Import 9996]
  rfl
set_option maxHeartbeats 4000000 in
theorem r_Eq_I (A A' : Option Addr) (c c' : Nat) (xs ys : List Int) (w : World) (hx : xs.length < 9223372036854775807) (hL : Lies encI 1 w w.heap.size A xs) (hM : Lies encI 1 w w.heap.size A' ys) :
    Calls Try.prog 11 #[.slice A xs.length c, .slice A' ys.length c'] w (Ret (.bool (decide (xs = ys))) w) := by
  by_cases hl : xs.length = ys.length
  · go_enter Try.func11, Try.ntmps11
    go_wp2
    go_loopw [14] (fun v wr => ∃ k : Nat, v = .int .i64 k ∧ k ≤ xs.length ∧ (∀ j, j < k → xs[j]? = ys[j]?) ∧ Below w.heap.size w wr) (fun v _ => (xs.length - intOf v).toNat)
    case atStart => exact ⟨0, rfl, by omega, fun j hj => by omega, by (repeat' (first | (with_reducible exact Below.refl _ _) | (with_reducible assumption) | (with_reducible refine Below.alloc ?_ ?_ _) | (with_reducible refine Below.drew ?_) | (with_reducible refine Below.setCell ?_ ?_ _) | (refine Below.trans ?_ (Below.mono (by with_reducible assumption) ?_)) | go_size))⟩
    case round =>
      obtain ⟨k, rfl, hk, hall, hbw⟩ := hrel
      have hbz := hbw.size
      have HA := Lib.hid hall
      clear hall
      rcases Nat.lt_or_ge k xs.length with hlt | hge
      · obtain ⟨b, o, p, rfl, hb, hp, q0⟩ := (hL.below hbw).cellsI hlt
        obtain ⟨b', o', q, rfl, hb', hq, r0⟩ := (hM.below hbw).cellsI (k := k) (by omega)
        have HP := Lib.hid hp
        have HQ := Lib.hid hq
        clear hp hq
        have hbr : b' < wr.heap.size := by omega
        have hbq : b < wr.heap.size := by omega
        have e4 : (0 ≤ (k : Int) ∧ (k : Int) < ys.length) := by omega
        cases hd : (p == q)
        · have H := Lib.hid (show decide (xs = ys) = false from decide_eq_false fun h => by
            rw [h, HQ.out] at HP
            exact (show ¬ p = q from by simpa using hd) (Option.some.inj HP.out).symm)
          go_wp2
          go_returns
          exact Ret.bool H.out.symm (by (repeat' (first | (with_reducible exact Below.refl _ _) | (with_reducible assumption) | (with_reducible refine Below.alloc ?_ ?_ _) | (with_reducible refine Below.drew ?_) | (with_reducible refine Below.setCell ?_ ?_ _) | (refine Below.trans ?_ (Below.mono (by with_reducible assumption) ?_)) | go_size)))
        · have H := Lib.hid (show p = q from by simpa using hd)
          go_wp2
          go_roundw
          case rel =>
            refine ⟨k + 1, by go_num, by omega, fun j hj => ?_, by (repeat' (first | (with_reducible exact Below.refl _ _) | (with_reducible assumption) | (with_reducible refine Below.alloc ?_ ?_ _) | (with_reducible refine Below.drew ?_) | (with_reducible refine Below.setCell ?_ ?_ _) | (refine Below.trans ?_ (Below.mono (by with_reducible assumption) ?_)) | go_size))⟩
            rcases Nat.lt_or_ge j k with h | h
            · exact HA.out j h
            · obtain rfl : j = k := by omega
              rw [HP.out, HQ.out, H.out]
          case measure => simp [intOf]; omega
      · have H := Lib.hid (show decide (xs = ys) = true from decide_eq_true (eqOfAll hl fun j hj => HA.out j (by omega)))
        go_wp2
        go_returns
        exact Ret.bool H.out.symm (by (repeat' (first | (with_reducible exact Below.refl _ _) | (with_reducible assumption) | (with_reducible refine Below.alloc ?_ ?_ _) | (with_reducible refine Below.drew ?_) | (with_reducible refine Below.setCell ?_ ?_ _) | (refine Below.trans ?_ (Below.mono (by with_reducible assumption) ?_)) | go_size)))
  · have H := Lib.hid (show decide (xs = ys) = false from decide_eq_false fun h => hl (by rw [h]))
    have hl' : ¬((xs.length : Int) = ys.length) := by omega
    go_enter Try.func11, Try.ntmps11
    go_wp2
    go_returns
    exact Ret.bool H.out.symm (by (repeat' (first | (with_reducible exact Below.refl _ _) | (with_reducible assumption) | (with_reducible refine Below.alloc ?_ ?_ _) | (with_reducible refine Below.drew ?_) | (with_reducible refine Below.setCell ?_ ?_ _) | (refine Below.trans ?_ (Below.mono (by with_reducible assumption) ?_)) | go_size)))
set_option maxHeartbeats 4000000 in
theorem r_Eq_L (A A' : Option Addr) (c c' : Nat) (xs ys : List Label) (w : World) (hx : xs.length < 9223372036854775807) (hL : Lies encL 2 w w.heap.size A xs) (hM : Lies encL 2 w w.heap.size A' ys) :
    Calls Try.prog 50 #[.slice A xs.length c, .slice A' ys.length c'] w (Ret (.bool (decide (xs = ys))) w) := by
  by_cases hl : xs.length = ys.length
  · go_enter Try.func50, Try.ntmps50
    go_wp2
    go_loopw [14] (fun v wr => ∃ k : Nat, v = .int .i64 k ∧ k ≤ xs.length ∧ (∀ j, j < k → xs[j]? = ys[j]?) ∧ Below w.heap.size w wr) (fun v _ => (xs.length - intOf v).toNat)
    case atStart => exact ⟨0, rfl, by omega, fun j hj => by omega, by (repeat' (first | (with_reducible exact Below.refl _ _) | (with_reducible assumption) | (with_reducible refine Below.alloc ?_ ?_ _) | (with_reducible refine Below.drew ?_) | (with_reducible refine Below.setCell ?_ ?_ _) | (refine Below.trans ?_ (Below.mono (by with_reducible assumption) ?_)) | go_size))⟩
    case round =>
      obtain ⟨k, rfl, hk, hall, hbw⟩ := hrel
      have hbz := hbw.size
      have HA := Lib.hid hall
      clear hall
      rcases Nat.lt_or_ge k xs.length with hlt | hge
      · obtain ⟨b, o, p, rfl, hb, hp, q0, q1⟩ := (hL.below hbw).cellsL hlt
        obtain ⟨b', o', q, rfl, hb', hq, r0, r1⟩ := (hM.below hbw).cellsL (k := k) (by omega)
        have HP := Lib.hid hp
        have HQ := Lib.hid hq
        clear hp hq
        have hbr : b' < wr.heap.size := by omega
        have hbq : b < wr.heap.size := by omega
        have e4 : (0 ≤ (k : Int) ∧ (k : Int) < ys.length) := by omega
        cases hd : decide (p = q)
        · have H := Lib.hid (show decide (xs = ys) = false from decide_eq_false fun h => by
            rw [h, HQ.out] at HP
            exact (show ¬ p = q from of_decide_eq_false hd) (Option.some.inj HP.out).symm)
          go_wp2
          (refine wp_region_kept (w0 := wr) (bs := [#[.string p.name, .int .i64 p.pos]]) (by kernel_rfl) (by kernel_rfl) (Kept.mk1 (by (repeat' (first | (with_reducible exact Below.refl _ _) | (with_reducible assumption) | (with_reducible refine Below.alloc ?_ ?_ _) | (with_reducible refine Below.drew ?_) | (with_reducible refine Below.setCell ?_ ?_ _) | (refine Below.trans ?_ (Below.mono (by with_reducible assumption) ?_)) | go_size))) (by go_size) (fun o => by simp [go_sem, *]) (fun o => by simp [go_sem, *])) ?_; (repeat (first | go_big_quiet_skip | (go_big_quiet_want; first | (refine BigFrame.quiet_move _ rfl ?_; (simp only [Act.put, Act.eval, Array.getD_eq_getD_getElem?, List.getElem?_toArray, List.getElem?_cons_zero, List.getElem?_cons_succ, Option.getD_some, List.setIfInBounds_toArray, List.set_cons_zero, List.set_cons_succ]); go_big_quiet_on) | (refine BigFrame.quiet_assign _ rfl ?_; (simp only [Act.put, Act.eval, Array.getD_eq_getD_getElem?, List.getElem?_toArray, List.getElem?_cons_zero, List.getElem?_cons_succ, Option.getD_some, List.setIfInBounds_toArray, List.set_cons_zero, List.set_cons_succ]); go_big_quiet_on) | (apply quiet_call; (focus (intro W; go_simp; constructor <;> with_reducible rfl)); (focus (intro W hW; first | fail)); (simp only [Act.put, Act.eval, Array.getD_eq_getD_getElem?, List.getElem?_toArray, List.getElem?_cons_zero, List.getElem?_cons_succ, Option.getD_some, List.setIfInBounds_toArray, List.set_cons_zero, List.set_cons_succ]); go_big_quiet_on) | (apply quiet_run; (focus (intro W hW; obtain ⟨hB, hS, hC, hF⟩ := hW; have c0 := hC 0 _ rfl; have f0 := hF 0 _ rfl; clear hC hF; (try simp only [Nat.add_zero] at c0 f0); (try simp only [List.length_cons, List.length_nil] at hS); have s0 := (hB.cell (p := ⟨b', o' + k * 2, none⟩) hbr).trans r0; have s1 := (hB.cell (p := ⟨b', o' + k * 2 + 1, none⟩) hbr).trans r1; go_simp; first | done | with_reducible rfl)); (simp only [Act.put, Act.eval, Array.getD_eq_getD_getElem?, List.getElem?_toArray, List.getElem?_cons_zero, List.getElem?_cons_succ, Option.getD_some, List.setIfInBounds_toArray, List.set_cons_zero, List.set_cons_succ]); go_big_quiet_on)))); refine wpQuiet_nil ?_; intro w2 hW; obtain ⟨hB, hS, hC, hF⟩ := hW; have c0 := hC 0 _ rfl; have f0 := hF 0 _ rfl; clear hC hF; (try simp only [Nat.add_zero] at c0 f0); (try simp only [List.length_cons, List.length_nil] at hS); have s0 := (hB.cell (p := ⟨b', o' + k * 2, none⟩) hbr).trans r0; have s1 := (hB.cell (p := ⟨b', o' + k * 2 + 1, none⟩) hbr).trans r1)
          go_wp2
          go_returns
          exact Ret.bool H.out.symm (by (repeat' (first | (with_reducible exact Below.refl _ _) | (with_reducible assumption) | (with_reducible refine Below.alloc ?_ ?_ _) | (with_reducible refine Below.drew ?_) | (with_reducible refine Below.setCell ?_ ?_ _) | (refine Below.trans ?_ (Below.mono (by with_reducible assumption) ?_)) | go_size)))
        · have H := Lib.hid (show p = q from of_decide_eq_true hd)
          go_wp2
          (refine wp_region_kept (w0 := wr) (bs := [#[.string p.name, .int .i64 p.pos]]) (by kernel_rfl) (by kernel_rfl) (Kept.mk1 (by (repeat' (first | (with_reducible exact Below.refl _ _) | (with_reducible assumption) | (with_reducible refine Below.alloc ?_ ?_ _) | (with_reducible refine Below.drew ?_) | (with_reducible refine Below.setCell ?_ ?_ _) | (refine Below.trans ?_ (Below.mono (by with_reducible assumption) ?_)) | go_size))) (by go_size) (fun o => by simp [go_sem, *]) (fun o => by simp [go_sem, *])) ?_; (repeat (first | go_big_quiet_skip | (go_big_quiet_want; first | (refine BigFrame.quiet_move _ rfl ?_; (simp only [Act.put, Act.eval, Array.getD_eq_getD_getElem?, List.getElem?_toArray, List.getElem?_cons_zero, List.getElem?_cons_succ, Option.getD_some, List.setIfInBounds_toArray, List.set_cons_zero, List.set_cons_succ]); go_big_quiet_on) | (refine BigFrame.quiet_assign _ rfl ?_; (simp only [Act.put, Act.eval, Array.getD_eq_getD_getElem?, List.getElem?_toArray, List.getElem?_cons_zero, List.getElem?_cons_succ, Option.getD_some, List.setIfInBounds_toArray, List.set_cons_zero, List.set_cons_succ]); go_big_quiet_on) | (apply quiet_call; (focus (intro W; go_simp; constructor <;> with_reducible rfl)); (focus (intro W hW; first | fail)); (simp only [Act.put, Act.eval, Array.getD_eq_getD_getElem?, List.getElem?_toArray, List.getElem?_cons_zero, List.getElem?_cons_succ, Option.getD_some, List.setIfInBounds_toArray, List.set_cons_zero, List.set_cons_succ]); go_big_quiet_on) | (apply quiet_run; (focus (intro W hW; obtain ⟨hB, hS, hC, hF⟩ := hW; have c0 := hC 0 _ rfl; have f0 := hF 0 _ rfl; clear hC hF; (try simp only [Nat.add_zero] at c0 f0); (try simp only [List.length_cons, List.length_nil] at hS); have s0 := (hB.cell (p := ⟨b', o' + k * 2, none⟩) hbr).trans r0; have s1 := (hB.cell (p := ⟨b', o' + k * 2 + 1, none⟩) hbr).trans r1; go_simp; first | done | with_reducible rfl)); (simp only [Act.put, Act.eval, Array.getD_eq_getD_getElem?, List.getElem?_toArray, List.getElem?_cons_zero, List.getElem?_cons_succ, Option.getD_some, List.setIfInBounds_toArray, List.set_cons_zero, List.set_cons_succ]); go_big_quiet_on)))); refine wpQuiet_nil ?_; intro w2 hW; obtain ⟨hB, hS, hC, hF⟩ := hW; have c0 := hC 0 _ rfl; have f0 := hF 0 _ rfl; clear hC hF; (try simp only [Nat.add_zero] at c0 f0); (try simp only [List.length_cons, List.length_nil] at hS); have s0 := (hB.cell (p := ⟨b', o' + k * 2, none⟩) hbr).trans r0; have s1 := (hB.cell (p := ⟨b', o' + k * 2 + 1, none⟩) hbr).trans r1)
          go_wp2
          go_roundw
          case rel =>
            refine ⟨k + 1, by go_num, by omega, fun j hj => ?_, by (repeat' (first | (with_reducible exact Below.refl _ _) | (with_reducible assumption) | (with_reducible refine Below.alloc ?_ ?_ _) | (with_reducible refine Below.drew ?_) | (with_reducible refine Below.setCell ?_ ?_ _) | (refine Below.trans ?_ (Below.mono (by with_reducible assumption) ?_)) | go_size))⟩
            rcases Nat.lt_or_ge j k with h | h
            · exact HA.out j h
            · obtain rfl : j = k := by omega
              rw [HP.out, HQ.out, H.out]
          case measure => simp [intOf]; omega
      · have H := Lib.hid (show decide (xs = ys) = true from decide_eq_true (eqOfAll hl fun j hj => HA.out j (by omega)))
        go_wp2
        go_returns
        exact Ret.bool H.out.symm (by (repeat' (first | (with_reducible exact Below.refl _ _) | (with_reducible assumption) | (with_reducible refine Below.alloc ?_ ?_ _) | (with_reducible refine Below.drew ?_) | (with_reducible refine Below.setCell ?_ ?_ _) | (refine Below.trans ?_ (Below.mono (by with_reducible assumption) ?_)) | go_size)))
  · have H := Lib.hid (show decide (xs = ys) = false from decide_eq_false fun h => hl (by rw [h]))
    have hl' : ¬((xs.length : Int) = ys.length) := by omega
    go_enter Try.func50, Try.ntmps50
    go_wp2
    go_returns
    exact Ret.bool H.out.symm (by (repeat' (first | (with_reducible exact Below.refl _ _) | (with_reducible assumption) | (with_reducible refine Below.alloc ?_ ?_ _) | (with_reducible refine Below.drew ?_) | (with_reducible refine Below.setCell ?_ ?_ _) | (refine Below.trans ?_ (Below.mono (by with_reducible assumption) ?_)) | go_size)))
set_option maxHeartbeats 4000000 in
theorem r_Eq_M (A A' : Option Addr) (c c' : Nat) (xs ys : List Import) (w : World) (hx : xs.length < 9223372036854775807) (hL : Lies encM 2 w w.heap.size A xs) (hM : Lies encM 2 w w.heap.size A' ys) :
    Calls Try.prog 51 #[.slice A xs.length c, .slice A' ys.length c'] w (Ret (.bool (decide (xs = ys))) w) := by
  by_cases hl : xs.length = ys.length
  · go_enter Try.func51, Try.ntmps51
    go_wp2
    go_loopw [14] (fun v wr => ∃ k : Nat, v = .int .i64 k ∧ k ≤ xs.length ∧ (∀ j, j < k → xs[j]? = ys[j]?) ∧ Below w.heap.size w wr) (fun v _ => (xs.length - intOf v).toNat)
    case atStart => exact ⟨0, rfl, by omega, fun j hj => by omega, by (repeat' (first | (with_reducible exact Below.refl _ _) | (with_reducible assumption) | (with_reducible refine Below.alloc ?_ ?_ _) | (with_reducible refine Below.drew ?_) | (with_reducible refine Below.setCell ?_ ?_ _) | (refine Below.trans ?_ (Below.mono (by with_reducible assumption) ?_)) | go_size))⟩
    case round =>
      obtain ⟨k, rfl, hk, hall, hbw⟩ := hrel
      have hbz := hbw.size
      have HA := Lib.hid hall
      clear hall
      rcases Nat.lt_or_ge k xs.length with hlt | hge
      · obtain ⟨b, o, p, rfl, hb, hp, q0, q1⟩ := (hL.below hbw).cellsM hlt
        obtain ⟨b', o', q, rfl, hb', hq, r0, r1⟩ := (hM.below hbw).cellsM (k := k) (by omega)
        have HP := Lib.hid hp
        have HQ := Lib.hid hq
        clear hp hq
        have hbr : b' < wr.heap.size := by omega
        have hbq : b < wr.heap.size := by omega
        have e4 : (0 ≤ (k : Int) ∧ (k : Int) < ys.length) := by omega
        cases hd : decide (p = q)
        · have H := Lib.hid (show decide (xs = ys) = false from decide_eq_false fun h => by
            rw [h, HQ.out] at HP
            exact (show ¬ p = q from of_decide_eq_false hd) (Option.some.inj HP.out).symm)
          go_wp2
          (refine wp_region_kept (w0 := wr) (bs := [#[.string p.name, .int .i64 p.slot]]) (by kernel_rfl) (by kernel_rfl) (Kept.mk1 (by (repeat' (first | (with_reducible exact Below.refl _ _) | (with_reducible assumption) | (with_reducible refine Below.alloc ?_ ?_ _) | (with_reducible refine Below.drew ?_) | (with_reducible refine Below.setCell ?_ ?_ _) | (refine Below.trans ?_ (Below.mono (by with_reducible assumption) ?_)) | go_size))) (by go_size) (fun o => by simp [go_sem, *]) (fun o => by simp [go_sem, *])) ?_; (repeat (first | go_big_quiet_skip | (go_big_quiet_want; first | (refine BigFrame.quiet_move _ rfl ?_; (simp only [Act.put, Act.eval, Array.getD_eq_getD_getElem?, List.getElem?_toArray, List.getElem?_cons_zero, List.getElem?_cons_succ, Option.getD_some, List.setIfInBounds_toArray, List.set_cons_zero, List.set_cons_succ]); go_big_quiet_on) | (refine BigFrame.quiet_assign _ rfl ?_; (simp only [Act.put, Act.eval, Array.getD_eq_getD_getElem?, List.getElem?_toArray, List.getElem?_cons_zero, List.getElem?_cons_succ, Option.getD_some, List.setIfInBounds_toArray, List.set_cons_zero, List.set_cons_succ]); go_big_quiet_on) | (apply quiet_call; (focus (intro W; go_simp; constructor <;> with_reducible rfl)); (focus (intro W hW; first | fail)); (simp only [Act.put, Act.eval, Array.getD_eq_getD_getElem?, List.getElem?_toArray, List.getElem?_cons_zero, List.getElem?_cons_succ, Option.getD_some, List.setIfInBounds_toArray, List.set_cons_zero, List.set_cons_succ]); go_big_quiet_on) | (apply quiet_run; (focus (intro W hW; obtain ⟨hB, hS, hC, hF⟩ := hW; have c0 := hC 0 _ rfl; have f0 := hF 0 _ rfl; clear hC hF; (try simp only [Nat.add_zero] at c0 f0); (try simp only [List.length_cons, List.length_nil] at hS); have s0 := (hB.cell (p := ⟨b', o' + k * 2, none⟩) hbr).trans r0; have s1 := (hB.cell (p := ⟨b', o' + k * 2 + 1, none⟩) hbr).trans r1; go_simp; first | done | with_reducible rfl)); (simp only [Act.put, Act.eval, Array.getD_eq_getD_getElem?, List.getElem?_toArray, List.getElem?_cons_zero, List.getElem?_cons_succ, Option.getD_some, List.setIfInBounds_toArray, List.set_cons_zero, List.set_cons_succ]); go_big_quiet_on)))); refine wpQuiet_nil ?_; intro w2 hW; obtain ⟨hB, hS, hC, hF⟩ := hW; have c0 := hC 0 _ rfl; have f0 := hF 0 _ rfl; clear hC hF; (try simp only [Nat.add_zero] at c0 f0); (try simp only [List.length_cons, List.length_nil] at hS); have s0 := (hB.cell (p := ⟨b', o' + k * 2, none⟩) hbr).trans r0; have s1 := (hB.cell (p := ⟨b', o' + k * 2 + 1, none⟩) hbr).trans r1)
          go_wp2
          go_returns
          exact Ret.bool H.out.symm (by (repeat' (first | (with_reducible exact Below.refl _ _) | (with_reducible assumption) | (with_reducible refine Below.alloc ?_ ?_ _) | (with_reducible refine Below.drew ?_) | (with_reducible refine Below.setCell ?_ ?_ _) | (refine Below.trans ?_ (Below.mono (by with_reducible assumption) ?_)) | go_size)))
        · have H := Lib.hid (show p = q from of_decide_eq_true hd)
          go_wp2
          (refine wp_region_kept (w0 := wr) (bs := [#[.string p.name, .int .i64 p.slot]]) (by kernel_rfl) (by kernel_rfl) (Kept.mk1 (by (repeat' (first | (with_reducible exact Below.refl _ _) | (with_reducible assumption) | (with_reducible refine Below.alloc ?_ ?_ _) | (with_reducible refine Below.drew ?_) | (with_reducible refine Below.setCell ?_ ?_ _) | (refine Below.trans ?_ (Below.mono (by with_reducible assumption) ?_)) | go_size))) (by go_size) (fun o => by simp [go_sem, *]) (fun o => by simp [go_sem, *])) ?_; (repeat (first | go_big_quiet_skip | (go_big_quiet_want; first | (refine BigFrame.quiet_move _ rfl ?_; (simp only [Act.put, Act.eval, Array.getD_eq_getD_getElem?, List.getElem?_toArray, List.getElem?_cons_zero, List.getElem?_cons_succ, Option.getD_some, List.setIfInBounds_toArray, List.set_cons_zero, List.set_cons_succ]); go_big_quiet_on) | (refine BigFrame.quiet_assign _ rfl ?_; (simp only [Act.put, Act.eval, Array.getD_eq_getD_getElem?, List.getElem?_toArray, List.getElem?_cons_zero, List.getElem?_cons_succ, Option.getD_some, List.setIfInBounds_toArray, List.set_cons_zero, List.set_cons_succ]); go_big_quiet_on) | (apply quiet_call; (focus (intro W; go_simp; constructor <;> with_reducible rfl)); (focus (intro W hW; first | fail)); (simp only [Act.put, Act.eval, Array.getD_eq_getD_getElem?, List.getElem?_toArray, List.getElem?_cons_zero, List.getElem?_cons_succ, Option.getD_some, List.setIfInBounds_toArray, List.set_cons_zero, List.set_cons_succ]); go_big_quiet_on) | (apply quiet_run; (focus (intro W hW; obtain ⟨hB, hS, hC, hF⟩ := hW; have c0 := hC 0 _ rfl; have f0 := hF 0 _ rfl; clear hC hF; (try simp only [Nat.add_zero] at c0 f0); (try simp only [List.length_cons, List.length_nil] at hS); have s0 := (hB.cell (p := ⟨b', o' + k * 2, none⟩) hbr).trans r0; have s1 := (hB.cell (p := ⟨b', o' + k * 2 + 1, none⟩) hbr).trans r1; go_simp; first | done | with_reducible rfl)); (simp only [Act.put, Act.eval, Array.getD_eq_getD_getElem?, List.getElem?_toArray, List.getElem?_cons_zero, List.getElem?_cons_succ, Option.getD_some, List.setIfInBounds_toArray, List.set_cons_zero, List.set_cons_succ]); go_big_quiet_on)))); refine wpQuiet_nil ?_; intro w2 hW; obtain ⟨hB, hS, hC, hF⟩ := hW; have c0 := hC 0 _ rfl; have f0 := hF 0 _ rfl; clear hC hF; (try simp only [Nat.add_zero] at c0 f0); (try simp only [List.length_cons, List.length_nil] at hS); have s0 := (hB.cell (p := ⟨b', o' + k * 2, none⟩) hbr).trans r0; have s1 := (hB.cell (p := ⟨b', o' + k * 2 + 1, none⟩) hbr).trans r1)
          go_wp2
          go_roundw
          case rel =>
            refine ⟨k + 1, by go_num, by omega, fun j hj => ?_, by (repeat' (first | (with_reducible exact Below.refl _ _) | (with_reducible assumption) | (with_reducible refine Below.alloc ?_ ?_ _) | (with_reducible refine Below.drew ?_) | (with_reducible refine Below.setCell ?_ ?_ _) | (refine Below.trans ?_ (Below.mono (by with_reducible assumption) ?_)) | go_size))⟩
            rcases Nat.lt_or_ge j k with h | h
            · exact HA.out j h
            · obtain rfl : j = k := by omega
              rw [HP.out, HQ.out, H.out]
          case measure => simp [intOf]; omega
      · have H := Lib.hid (show decide (xs = ys) = true from decide_eq_true (eqOfAll hl fun j hj => HA.out j (by omega)))
        go_wp2
        go_returns
        exact Ret.bool H.out.symm (by (repeat' (first | (with_reducible exact Below.refl _ _) | (with_reducible assumption) | (with_reducible refine Below.alloc ?_ ?_ _) | (with_reducible refine Below.drew ?_) | (with_reducible refine Below.setCell ?_ ?_ _) | (refine Below.trans ?_ (Below.mono (by with_reducible assumption) ?_)) | go_size)))
  · have H := Lib.hid (show decide (xs = ys) = false from decide_eq_false fun h => hl (by rw [h]))
    have hl' : ¬((xs.length : Int) = ys.length) := by omega
    go_enter Try.func51, Try.ntmps51
    go_wp2
    go_returns
    exact Ret.bool H.out.symm (by (repeat' (first | (with_reducible exact Below.refl _ _) | (with_reducible assumption) | (with_reducible refine Below.alloc ?_ ?_ _) | (with_reducible refine Below.drew ?_) | (with_reducible refine Below.setCell ?_ ?_ _) | (refine Below.trans ?_ (Below.mono (by with_reducible assumption) ?_)) | go_size)))
end Go.Proofs.Ythdlfepakkihnaa
namespace Go.Proofs.Ythdlfepakkihnaa
open Go.ChangeShapes Go.WideShapes Go.ChangeAt Go.RowKit
set_option linter.unusedVariables false
set_option linter.unusedSimpArgs false
set_option maxRecDepth 100000
theorem c_FRead (s : List UInt8) (h63 : s.length ≤ 9223372036854775807) (w : World) : Calls Try.prog 21 #[.string (str s)] w (RetRd w (readP s)) := by
  rcases Nat.lt_or_ge 4000 s.length with h | h
  · exact c_FRead_large s h h63 w
  · rcases Nat.lt_or_ge s.length 9 with h9 | h9
    · exact c_FRead_small s h9 w
    · by_cases hs : s.drop (s.length - 2) = high (sumB (s.take (s.length - 2))) 2
      · exact c_FRead_main s h h9 hs w
      · exact c_FRead_sum s h h9 hs w
theorem r_FRead (s : List UInt8) (h63 : s.length ≤ 9223372036854775807) (w : World) : Calls Try.prog 22 #[.string (str s)] w (RetRd w (readR s)) := by
  rcases Nat.lt_or_ge 4000 s.length with h | h
  · exact r_FRead_large s h h63 w
  · rcases Nat.lt_or_ge s.length 9 with h9 | h9
    · exact r_FRead_small s h9 w
    · by_cases hs : s.drop (s.length - 2) = high (sumB (s.take (s.length - 2))) 2
      · exact r_FRead_main s h h9 hs w
      · exact r_FRead_sum s h h9 hs w
theorem ModV.grow {w w' : World} {mv : Value} {m : Mod} (h : ModV w w.heap.size mv m) (hb : Below w.heap.size w w') : ModV w' w'.heap.size mv m := (h.below hb).more hb.size
theorem readM_short {N4 : List UInt8 → Int} {tk : Nat → List UInt8 → List UInt8 × List UInt8} (s : List UInt8) : (readM N4 tk s).code.length ≤ 255 ∧ (readM N4 tk s).data.length ≤ 255 ∧ (readM N4 tk s).exports.length ≤ 255 ∧ (readM N4 tk s).imports.length ≤ 255 := by
  obtain ⟨h1, h2, h3, h4⟩ := readM_lens (N4 := N4) (tk := tk) s
  have a := cntB_le s 3
  have b := cntB_le s 4
  have c := cntB_le s 5
  have d := cntB_le s 6
  omega
theorem readP_short (s : List UInt8) : (readP s).1.code.length ≤ 255 ∧ (readP s).1.data.length ≤ 255 ∧ (readP s).1.exports.length ≤ 255 ∧ (readP s).1.imports.length ≤ 255 := by
  have hz : zeroM.code.length ≤ 255 ∧ zeroM.data.length ≤ 255 ∧ zeroM.exports.length ≤ 255 ∧ zeroM.imports.length ≤ 255 := by decide
  unfold readP readE
  split
  · exact hz
  · split
    · exact hz
    · split
      · unfold readG
        split
        · exact readM_short s
        · exact hz
      · exact hz
set_option maxHeartbeats 2000000 in
theorem r_ModEq (mv mv' : Value) (m : Mod) (w : World) (hl : m.code.length ≤ 255 ∧ m.data.length ≤ 255 ∧ m.exports.length ≤ 255 ∧ m.imports.length ≤ 255) (h : ModV w w.heap.size mv m) (h' : ModV w w.heap.size mv' m) : Calls Try.prog 23 #[mv, mv'] w (Ret (.bool true) w) := by
  obtain ⟨A, D, E, I, a, d, e, i, rfl, -, -, -, -, -, -, -, -, hA, hD, hE, hIm⟩ := h.ex
  obtain ⟨A', D', E', I', a', d', e', i', rfl, -, -, -, -, -, -, -, -, hA', hD', hE', hIm'⟩ := h'.ex
  obtain ⟨l1, l2, l3, l4⟩ := hl
  have H1 := Lib.hid (fun w hL hM => r_Eq_I A A' a a' m.code m.code w (by omega) hL hM)
  have H2 := Lib.hid (fun w hL hM => r_Eq_I D D' d d' m.data m.data w (by omega) hL hM)
  have H3 := Lib.hid (fun w hL hM => r_Eq_L E E' e e' m.exports m.exports w (by omega) hL hM)
  have H4 := Lib.hid (fun w hL hM => r_Eq_M I I' i i' m.imports m.imports w (by omega) hL hM)
  rw [decide_eq_true rfl] at H1 H2 H3 H4
  have HA := Lib.hid hA
  have HA' := Lib.hid hA'
  have HD := Lib.hid hD
  have HD' := Lib.hid hD'
  have HE := Lib.hid hE
  have HE' := Lib.hid hE'
  have HM := Lib.hid hIm
  have HM' := Lib.hid hIm'
  clear h h' hA hA' hD hD' hE hE' hIm hIm'
  have hI := Inv.start w
  have m1 : True := trivial
  go_enter Try.func23, Try.ntmps23
  go_wp2_with (first
    | (refine listI rfl fun K hK => wpI_box _ _ rfl hI rfl fun gx w' hI' hb => hK _ _ ?_; clear hK K; (try replace HM1 := Lib.hid (HM1.out.grow hb)); (try replace HM2 := Lib.hid (HM2.out.grow hb)); (try replace HM3 := Lib.hid (HM3.out.grow hb)); (try replace HM4 := Lib.hid (HM4.out.grow hb)); (try clear hb); clear hI; have hI := hI'; clear hI'; (try simp only [List.cons_append, List.nil_append, List.set_cons_zero, List.set_cons_succ, List.setIfInBounds_toArray, Act.put, Act.eval, Array.getD_eq_getD_getElem?, List.getElem?_toArray, List.getElem?_cons_zero, List.getElem?_cons_succ, Option.getD_some] at hI); (try clear c0); (try clear c1); (try clear c2); (try clear c3); (try clear c4); (try clear c5); (try clear c6); (try clear c7); (try clear c8); (try clear c9); (try clear c10); (try clear c11); (try have c0 := hI.cell (i := 0) rfl); (try have c1 := hI.cell (i := 1) rfl); (try have c2 := hI.cell (i := 2) rfl); (try have c3 := hI.cell (i := 3) rfl); (try have c4 := hI.cell (i := 4) rfl); (try have c5 := hI.cell (i := 5) rfl); (try have c6 := hI.cell (i := 6) rfl); (try have c7 := hI.cell (i := 7) rfl); (try have c8 := hI.cell (i := 8) rfl); (try have c9 := hI.cell (i := 9) rfl); (try have c10 := hI.cell (i := 10) rfl); (try have c11 := hI.cell (i := 11) rfl); skip) | (refine listI rfl fun K hK => wpI_box1 _ _ rfl hI rfl rfl fun gx w' hI' hb => hK _ _ ?_; clear hK K; (try replace HM1 := Lib.hid (HM1.out.grow hb)); (try replace HM2 := Lib.hid (HM2.out.grow hb)); (try replace HM3 := Lib.hid (HM3.out.grow hb)); (try replace HM4 := Lib.hid (HM4.out.grow hb)); (try clear hb); clear hI; have hI := hI'; clear hI'; (try simp only [List.cons_append, List.nil_append, List.set_cons_zero, List.set_cons_succ, List.setIfInBounds_toArray, Act.put, Act.eval, Array.getD_eq_getD_getElem?, List.getElem?_toArray, List.getElem?_cons_zero, List.getElem?_cons_succ, Option.getD_some] at hI); (try clear c0); (try clear c1); (try clear c2); (try clear c3); (try clear c4); (try clear c5); (try clear c6); (try clear c7); (try clear c8); (try clear c9); (try clear c10); (try clear c11); (try have c0 := hI.cell (i := 0) rfl); (try have c1 := hI.cell (i := 1) rfl); (try have c2 := hI.cell (i := 2) rfl); (try have c3 := hI.cell (i := 3) rfl); (try have c4 := hI.cell (i := 4) rfl); (try have c5 := hI.cell (i := 5) rfl); (try have c6 := hI.cell (i := 6) rfl); (try have c7 := hI.cell (i := 7) rfl); (try have c8 := hI.cell (i := 8) rfl); (try have c9 := hI.cell (i := 9) rfl); (try have c10 := hI.cell (i := 10) rfl); (try have c11 := hI.cell (i := 11) rfl); skip)
    | (have hq := m1; clear m1 hq; go_at_call 11; refine (H1.out _ (hI.lies HA.out) (hI.lies HA'.out)).mono ?_; intro e w' hr; obtain ⟨rfl, hb⟩ := hr; have hI' := hI.on hb; (try replace HM1 := Lib.hid (HM1.out.grow hb)); (try replace HM2 := Lib.hid (HM2.out.grow hb)); (try replace HM3 := Lib.hid (HM3.out.grow hb)); (try replace HM4 := Lib.hid (HM4.out.grow hb)); (try clear hb); clear hI; have hI := hI'; clear hI'; (try simp only [List.cons_append, List.nil_append, List.set_cons_zero, List.set_cons_succ, List.setIfInBounds_toArray, Act.put, Act.eval, Array.getD_eq_getD_getElem?, List.getElem?_toArray, List.getElem?_cons_zero, List.getElem?_cons_succ, Option.getD_some] at hI); (try clear c0); (try clear c1); (try clear c2); (try clear c3); (try clear c4); (try clear c5); (try clear c6); (try clear c7); (try clear c8); (try clear c9); (try clear c10); (try clear c11); (try have c0 := hI.cell (i := 0) rfl); (try have c1 := hI.cell (i := 1) rfl); (try have c2 := hI.cell (i := 2) rfl); (try have c3 := hI.cell (i := 3) rfl); (try have c4 := hI.cell (i := 4) rfl); (try have c5 := hI.cell (i := 5) rfl); (try have c6 := hI.cell (i := 6) rfl); (try have c7 := hI.cell (i := 7) rfl); (try have c8 := hI.cell (i := 8) rfl); (try have c9 := hI.cell (i := 9) rfl); (try have c10 := hI.cell (i := 10) rfl); (try have c11 := hI.cell (i := 11) rfl); skip)
    | (go_at_call 11; refine (H2.out _ (hI.lies HD.out) (hI.lies HD'.out)).mono ?_; intro e w' hr; obtain ⟨rfl, hb⟩ := hr; have hI' := hI.on hb; (try replace HM1 := Lib.hid (HM1.out.grow hb)); (try replace HM2 := Lib.hid (HM2.out.grow hb)); (try replace HM3 := Lib.hid (HM3.out.grow hb)); (try replace HM4 := Lib.hid (HM4.out.grow hb)); (try clear hb); clear hI; have hI := hI'; clear hI'; (try simp only [List.cons_append, List.nil_append, List.set_cons_zero, List.set_cons_succ, List.setIfInBounds_toArray, Act.put, Act.eval, Array.getD_eq_getD_getElem?, List.getElem?_toArray, List.getElem?_cons_zero, List.getElem?_cons_succ, Option.getD_some] at hI); (try clear c0); (try clear c1); (try clear c2); (try clear c3); (try clear c4); (try clear c5); (try clear c6); (try clear c7); (try clear c8); (try clear c9); (try clear c10); (try clear c11); (try have c0 := hI.cell (i := 0) rfl); (try have c1 := hI.cell (i := 1) rfl); (try have c2 := hI.cell (i := 2) rfl); (try have c3 := hI.cell (i := 3) rfl); (try have c4 := hI.cell (i := 4) rfl); (try have c5 := hI.cell (i := 5) rfl); (try have c6 := hI.cell (i := 6) rfl); (try have c7 := hI.cell (i := 7) rfl); (try have c8 := hI.cell (i := 8) rfl); (try have c9 := hI.cell (i := 9) rfl); (try have c10 := hI.cell (i := 10) rfl); (try have c11 := hI.cell (i := 11) rfl); skip)
    | (go_at_call 50; (with_reducible refine (H3.out _ (hI.lies HE.out) (hI.lies HE'.out)).mono ?_); intro e w' hr; obtain ⟨rfl, hb⟩ := hr; have hI' := hI.on hb; (try replace HM1 := Lib.hid (HM1.out.grow hb)); (try replace HM2 := Lib.hid (HM2.out.grow hb)); (try replace HM3 := Lib.hid (HM3.out.grow hb)); (try replace HM4 := Lib.hid (HM4.out.grow hb)); (try clear hb); clear hI; have hI := hI'; clear hI'; (try simp only [List.cons_append, List.nil_append, List.set_cons_zero, List.set_cons_succ, List.setIfInBounds_toArray, Act.put, Act.eval, Array.getD_eq_getD_getElem?, List.getElem?_toArray, List.getElem?_cons_zero, List.getElem?_cons_succ, Option.getD_some] at hI); (try clear c0); (try clear c1); (try clear c2); (try clear c3); (try clear c4); (try clear c5); (try clear c6); (try clear c7); (try clear c8); (try clear c9); (try clear c10); (try clear c11); (try have c0 := hI.cell (i := 0) rfl); (try have c1 := hI.cell (i := 1) rfl); (try have c2 := hI.cell (i := 2) rfl); (try have c3 := hI.cell (i := 3) rfl); (try have c4 := hI.cell (i := 4) rfl); (try have c5 := hI.cell (i := 5) rfl); (try have c6 := hI.cell (i := 6) rfl); (try have c7 := hI.cell (i := 7) rfl); (try have c8 := hI.cell (i := 8) rfl); (try have c9 := hI.cell (i := 9) rfl); (try have c10 := hI.cell (i := 10) rfl); (try have c11 := hI.cell (i := 11) rfl); skip)
    | (go_at_call 51; (with_reducible refine (H4.out _ (hI.lies HM.out) (hI.lies HM'.out)).mono ?_); intro e w' hr; obtain ⟨rfl, hb⟩ := hr; have hI' := hI.on hb; (try replace HM1 := Lib.hid (HM1.out.grow hb)); (try replace HM2 := Lib.hid (HM2.out.grow hb)); (try replace HM3 := Lib.hid (HM3.out.grow hb)); (try replace HM4 := Lib.hid (HM4.out.grow hb)); (try clear hb); clear hI; have hI := hI'; clear hI'; (try simp only [List.cons_append, List.nil_append, List.set_cons_zero, List.set_cons_succ, List.setIfInBounds_toArray, Act.put, Act.eval, Array.getD_eq_getD_getElem?, List.getElem?_toArray, List.getElem?_cons_zero, List.getElem?_cons_succ, Option.getD_some] at hI); (try clear c0); (try clear c1); (try clear c2); (try clear c3); (try clear c4); (try clear c5); (try clear c6); (try clear c7); (try clear c8); (try clear c9); (try clear c10); (try clear c11); (try have c0 := hI.cell (i := 0) rfl); (try have c1 := hI.cell (i := 1) rfl); (try have c2 := hI.cell (i := 2) rfl); (try have c3 := hI.cell (i := 3) rfl); (try have c4 := hI.cell (i := 4) rfl); (try have c5 := hI.cell (i := 5) rfl); (try have c6 := hI.cell (i := 6) rfl); (try have c7 := hI.cell (i := 7) rfl); (try have c8 := hI.cell (i := 8) rfl); (try have c9 := hI.cell (i := 9) rfl); (try have c10 := hI.cell (i := 10) rfl); (try have c11 := hI.cell (i := 11) rfl); skip)
    | fail)
  go_returns
  exact ⟨rfl, hI.below⟩
set_option maxHeartbeats 1000000 in
theorem fileReads_walk (s : List UInt8) (h63 : s.length ≤ 9223372036854775807) (w : World) : Calls Try.prog 7 #[.string (str s)] w (Ret (.bool true) w) := by
  have HC := Lib.hid (fun W => c_FRead s h63 W)
  have HR := Lib.hid (fun W => r_FRead s h63 W)
  have HL := Lib.hid (readP_short s)
  rw [← readP_eq] at HR
  generalize readP s = r at *
  obtain ⟨m, er⟩ := r
  have hI := Inv.start w
  have m1 : True := trivial
  go_enter Try.func7, Try.ntmps7
  go_wp2_with (first
    | (have hq := m1; clear m1 hq; go_at_call 21; refine (HC.out _).mono ?_; rintro e w' ⟨mv, rfl, hmv, hb⟩; obtain ⟨A, D, E, I, a, d, e, i, rfl, -⟩ := hmv.ex; have hI' := hI.on hb; (try replace HM1 := Lib.hid (HM1.out.grow hb)); (try replace HM2 := Lib.hid (HM2.out.grow hb)); (try replace HM3 := Lib.hid (HM3.out.grow hb)); (try replace HM4 := Lib.hid (HM4.out.grow hb)); (try clear hb); clear hI; have hI := hI'; clear hI'; (try simp only [List.cons_append, List.nil_append, List.set_cons_zero, List.set_cons_succ, List.setIfInBounds_toArray, Act.put, Act.eval, Array.getD_eq_getD_getElem?, List.getElem?_toArray, List.getElem?_cons_zero, List.getElem?_cons_succ, Option.getD_some] at hI); (try clear c0); (try clear c1); (try clear c2); (try clear c3); (try clear c4); (try clear c5); (try clear c6); (try clear c7); (try clear c8); (try clear c9); (try clear c10); (try clear c11); (try have c0 := hI.cell (i := 0) rfl); (try have c1 := hI.cell (i := 1) rfl); (try have c2 := hI.cell (i := 2) rfl); (try have c3 := hI.cell (i := 3) rfl); (try have c4 := hI.cell (i := 4) rfl); (try have c5 := hI.cell (i := 5) rfl); (try have c6 := hI.cell (i := 6) rfl); (try have c7 := hI.cell (i := 7) rfl); (try have c8 := hI.cell (i := 8) rfl); (try have c9 := hI.cell (i := 9) rfl); (try have c10 := hI.cell (i := 10) rfl); (try have c11 := hI.cell (i := 11) rfl); skip; have HM1 := Lib.hid hmv; clear hmv)
    | ((go_at_call 21; (with_reducible refine (c_FRead_short _ (by decide) _).mono ?_); intro e w' hr; obtain ⟨rfl, hb⟩ := hr; have hI' := hI.on hb; (try replace HM1 := Lib.hid (HM1.out.grow hb)); (try replace HM2 := Lib.hid (HM2.out.grow hb)); (try replace HM3 := Lib.hid (HM3.out.grow hb)); (try replace HM4 := Lib.hid (HM4.out.grow hb)); (try clear hb); clear hI; have hI := hI'; clear hI'; (try simp only [List.cons_append, List.nil_append, List.set_cons_zero, List.set_cons_succ, List.setIfInBounds_toArray, Act.put, Act.eval, Array.getD_eq_getD_getElem?, List.getElem?_toArray, List.getElem?_cons_zero, List.getElem?_cons_succ, Option.getD_some] at hI); (try clear c0); (try clear c1); (try clear c2); (try clear c3); (try clear c4); (try clear c5); (try clear c6); (try clear c7); (try clear c8); (try clear c9); (try clear c10); (try clear c11); (try have c0 := hI.cell (i := 0) rfl); (try have c1 := hI.cell (i := 1) rfl); (try have c2 := hI.cell (i := 2) rfl); (try have c3 := hI.cell (i := 3) rfl); (try have c4 := hI.cell (i := 4) rfl); (try have c5 := hI.cell (i := 5) rfl); (try have c6 := hI.cell (i := 6) rfl); (try have c7 := hI.cell (i := 7) rfl); (try have c8 := hI.cell (i := 8) rfl); (try have c9 := hI.cell (i := 9) rfl); (try have c10 := hI.cell (i := 10) rfl); (try have c11 := hI.cell (i := 11) rfl); skip))
    | (go_at_call 22; refine (HR.out _).mono ?_; rintro e w' ⟨mv, rfl, hmv, hb⟩; obtain ⟨A', D', E', I', a', d', e', i', rfl, -⟩ := hmv.ex; have hI' := hI.on hb; (try replace HM1 := Lib.hid (HM1.out.grow hb)); (try replace HM2 := Lib.hid (HM2.out.grow hb)); (try replace HM3 := Lib.hid (HM3.out.grow hb)); (try replace HM4 := Lib.hid (HM4.out.grow hb)); (try clear hb); clear hI; have hI := hI'; clear hI'; (try simp only [List.cons_append, List.nil_append, List.set_cons_zero, List.set_cons_succ, List.setIfInBounds_toArray, Act.put, Act.eval, Array.getD_eq_getD_getElem?, List.getElem?_toArray, List.getElem?_cons_zero, List.getElem?_cons_succ, Option.getD_some] at hI); (try clear c0); (try clear c1); (try clear c2); (try clear c3); (try clear c4); (try clear c5); (try clear c6); (try clear c7); (try clear c8); (try clear c9); (try clear c10); (try clear c11); (try have c0 := hI.cell (i := 0) rfl); (try have c1 := hI.cell (i := 1) rfl); (try have c2 := hI.cell (i := 2) rfl); (try have c3 := hI.cell (i := 3) rfl); (try have c4 := hI.cell (i := 4) rfl); (try have c5 := hI.cell (i := 5) rfl); (try have c6 := hI.cell (i := 6) rfl); (try have c7 := hI.cell (i := 7) rfl); (try have c8 := hI.cell (i := 8) rfl); (try have c9 := hI.cell (i := 9) rfl); (try have c10 := hI.cell (i := 10) rfl); (try have c11 := hI.cell (i := 11) rfl); skip; have HM2 := Lib.hid hmv; clear hmv)
    | (refine listI_var rfl rfl 51 rfl _ _ rfl hI Try.zeroValue51 (fun _ => rfl) (fun _ => rfl) (by first | rfl | (simp only [hsz1]; first | done | rfl | kernel_rfl) | (simp only [hsz2]; first | done | rfl | kernel_rfl) | (simp only [hsz]; first | done | rfl | kernel_rfl) | kernel_rfl) (by first | exact info_mach (by assumption) | (simp only [hsz1]; kernel_rfl) | (simp only [hsz2]; kernel_rfl) | (simp only [hsz]; kernel_rfl) | kernel_rfl) (by first | (simp [Value.oneCell']; done) | exact HO1.out | exact HO2.out) fun gx w' hI' hb => ?_; (try replace HM1 := Lib.hid (HM1.out.grow hb)); (try replace HM2 := Lib.hid (HM2.out.grow hb)); (try replace HM3 := Lib.hid (HM3.out.grow hb)); (try replace HM4 := Lib.hid (HM4.out.grow hb)); (try clear hb); clear hI; have hI := hI'; clear hI'; (try simp only [List.cons_append, List.nil_append, List.set_cons_zero, List.set_cons_succ, List.setIfInBounds_toArray, Act.put, Act.eval, Array.getD_eq_getD_getElem?, List.getElem?_toArray, List.getElem?_cons_zero, List.getElem?_cons_succ, Option.getD_some] at hI); (try clear c0); (try clear c1); (try clear c2); (try clear c3); (try clear c4); (try clear c5); (try clear c6); (try clear c7); (try clear c8); (try clear c9); (try clear c10); (try clear c11); (try have c0 := hI.cell (i := 0) rfl); (try have c1 := hI.cell (i := 1) rfl); (try have c2 := hI.cell (i := 2) rfl); (try have c3 := hI.cell (i := 3) rfl); (try have c4 := hI.cell (i := 4) rfl); (try have c5 := hI.cell (i := 5) rfl); (try have c6 := hI.cell (i := 6) rfl); (try have c7 := hI.cell (i := 7) rfl); (try have c8 := hI.cell (i := 8) rfl); (try have c9 := hI.cell (i := 9) rfl); (try have c10 := hI.cell (i := 10) rfl); (try have c11 := hI.cell (i := 11) rfl); skip)
    | (go_at_call 23; (with_reducible refine (r_ModEq _ _ m _ HL.out HM1.out HM2.out).mono ?_); intro e w' hr; obtain ⟨rfl, hb⟩ := hr; have hI' := hI.on hb; (try replace HM1 := Lib.hid (HM1.out.grow hb)); (try replace HM2 := Lib.hid (HM2.out.grow hb)); (try replace HM3 := Lib.hid (HM3.out.grow hb)); (try replace HM4 := Lib.hid (HM4.out.grow hb)); (try clear hb); clear hI; have hI := hI'; clear hI'; (try simp only [List.cons_append, List.nil_append, List.set_cons_zero, List.set_cons_succ, List.setIfInBounds_toArray, Act.put, Act.eval, Array.getD_eq_getD_getElem?, List.getElem?_toArray, List.getElem?_cons_zero, List.getElem?_cons_succ, Option.getD_some] at hI); (try clear c0); (try clear c1); (try clear c2); (try clear c3); (try clear c4); (try clear c5); (try clear c6); (try clear c7); (try clear c8); (try clear c9); (try clear c10); (try clear c11); (try have c0 := hI.cell (i := 0) rfl); (try have c1 := hI.cell (i := 1) rfl); (try have c2 := hI.cell (i := 2) rfl); (try have c3 := hI.cell (i := 3) rfl); (try have c4 := hI.cell (i := 4) rfl); (try have c5 := hI.cell (i := 5) rfl); (try have c6 := hI.cell (i := 6) rfl); (try have c7 := hI.cell (i := 7) rfl); (try have c8 := hI.cell (i := 8) rfl); (try have c9 := hI.cell (i := 9) rfl); (try have c10 := hI.cell (i := 10) rfl); (try have c11 := hI.cell (i := 11) rfl); skip)
    | fail)
  go_returns
  exact Ret.bool (by simp) hI.below
theorem fileReads_open {H : Type} (enc : TypeId × Value → H) (W : World) (base : Nat) (args : Array Value) (ds : List (DataW H)) (ps : List MemPlace)
    (hval : ∀ (j : Nat) t v, Try.f7.params[j]? = some t → args[j]? = some v → Value.okWide Try.prog W .any base t v)
    (hA : DataW.TrodAll enc Try.prog W 0 (fun _ => true) true Try.f7.params.toList args.toList ds ps) (hlt : ∀ x ∈ ps, x.block < W.heap.size)
    (hsz : (DataW.weightsEach Try.prog Try.f7.params.toList ds).all (· ≤ reachBytes) = true) :
    Calls Try.prog 7 args W fun e W' => e = .returned (.bool true) ∧ Below W.heap.size W W' := by
  rw [Try.params7] at hA hval
  obtain ⟨v0, d0, rfl, rfl, h0⟩ := trodAll_one hA
  obtain ⟨s, rfl, h1, h2, ws⟩ := Go.ChangeMaps.open_string Try.underlying9 (hval 0 _ v0 rfl rfl) h0
  obtain ⟨l, rfl⟩ : ∃ l, s = str l := ⟨s.data.toList, (str_of s).symm⟩
  rw [str_size] at ws
  unfold maxLen at ws
  exact (fileReads_walk l (by omega) W).mono fun e W' hr => hr
set_option maxRecDepth 100000 in
theorem fileReads_lifted (os : Os) (started : os.Started) (H : Type) (enc : TypeId × Value → H) :
    ReturnsInHanded {} Try.checked os 7 .any (Rows.fileReadsSpec.pre6 enc Try.prog Try.f7 [] false) (Rows.fileReadsSpec.post enc Try.prog Try.f7 false true false false) :=
  lifted (C := Try.checked) (s := Rows.fileReadsSpec) (by kernel_rfl) started (by kernel_rfl) Try.func7
    (ChangeSpec.witness6 (enc := enc) (C := Try.checked) false ⟨#[], #[.string ⟨#[]⟩], []⟩ 12 (by kernel_rfl) (by kernel_rfl) (by kernel_rfl) (by kernel_rfl))
    (by kernel_rfl) (by kernel_rfl) rfl rfl Try.underlying4
    (fun ds h => by match ds, h with | [_], _ => exact ⟨rfl, rfl, rfl⟩)
    (fun W base args ds ps hval hA hlt hsz => fileReads_open enc W base args ds ps hval hA hlt hsz)
theorem fileReads_holds : Rows.FileReadsSaid :=
  OpenClaim.holds_of_wide 7 Try.f7 rfl rfl rfl rfl rfl rfl rfl ⟨rfl, rfl, rfl, rfl, rfl⟩ rfl rfl rfl rfl rfl (by kernel_rfl) Try.func7 (by kernel_rfl)
    (of_decide_eq_true (by kernel_rfl)) (by unfold Func.isWrapper; first | (rw [if_pos (by decide +kernel)]; kernel_rfl) | (rw [if_neg (by decide +kernel)]; exact ⟨rfl, rfl⟩))
    (fun os started H enc _ => fileReads_lifted os started H enc)
#print axioms fileReads_holds
end Go.Proofs.Ythdlfepakkihnaa
