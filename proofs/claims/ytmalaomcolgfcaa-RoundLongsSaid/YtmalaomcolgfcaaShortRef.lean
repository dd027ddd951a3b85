/- The contract of the reference's Short: it returns the same plain function. Conditions: none. -/
import Derived.Test.YtmalaomcolgfcaaShort
namespace Go.Proofs.Ytmalaomcolgfcaa
open Go.RowKit
set_option linter.unusedVariables false
set_option linter.unusedSimpArgs false
theorem fit_first {b n : Int} {e : Nat} (hr : isRg b n = true) (h : fitBy b n e = true) (hj : ∀ j, j < e → fitBy b n j = false) : lst b n = e := by
  obtain ⟨h1, h2⟩ := fits_some hr h
  have h3 := (fits_lst h1).2
  rcases Nat.lt_or_ge (lst b n) e with hl | hl
  · rw [hj _ hl] at h3; cases h3
  · omega
theorem short_ref {b n : Int} {e : Nat} (he : e < 17) (hr : isRg b n = true) (hf : fitBy b n e = true) : IntKind.i64.wrap (IntKind.i64.wrap (IntKind.i64.wrap ((e : Int) * 1048576) + IntKind.i64.wrap (IntKind.i64.wrap (b / 2 ^ e) * 16)) + IntKind.i64.wrap (n / 2 ^ e)) = (e : Int) * 1048576 + b / 2 ^ e * 16 + n / 2 ^ e := by
  obtain ⟨hb, hn⟩ := isRg_iff.1 hr
  obtain ⟨_, _, h3⟩ := fitBy_iff.1 hf
  have p1 := pow_ge e
  have v0 : 0 ≤ b / 2 ^ e := Int.ediv_nonneg hb.1 (by omega)
  have v1 : b / 2 ^ e ≤ b := Int.ediv_le_self _ hb.1
  have v2 : 0 ≤ n / 2 ^ e := Int.ediv_nonneg hn.1 (by omega)
  have v3 : n / 2 ^ e ≤ 15 := Int.ediv_le_of_le_mul (by omega) h3
  generalize b / 2 ^ e = x at *
  generalize n / 2 ^ e = y at *
  rw [IntWalk.i64_in x (by omega), IntWalk.i64_in y (by omega), IntWalk.i64_in (x * 16) (by omega), IntWalk.i64_in ((e : Int) * 1048576) (by omega), IntWalk.i64_in ((e : Int) * 1048576 + x * 16) (by omega), IntWalk.i64_in _ (by omega)]
set_option maxHeartbeats 1000000 in
theorem r_Short (b n : Int) (w : World) :
    Calls Try.prog 22 #[.int .i64 b, .int .i64 n] w (Ret (.tuple #[.int .i64 (shortF b n).1, .int .i64 (shortF b n).2]) w) := by
  cases h : isRg b n
  · have H := Lib.hid (show shortF b n = (0, 1) by simp [shortF, h])
    go_enter Try.func22, Try.ntmps22
    go_wp2_with (go_at_call 50; (with_reducible refine (r_isRange _ _ _).mono ?_); intro e w1 hr; obtain ⟨rfl, hb, hc, hf, hz⟩ := hr.use; (try simp only [World.size_alloc, World.size_setCell, World.size_drew] at hz); clear hr)
    go_returns
    exact Ret.mk (by rw [H.out]; rfl) (by (repeat' (first | (with_reducible exact Below.refl _ _) | (with_reducible assumption) | (with_reducible refine Below.alloc ?_ ?_ _) | (with_reducible refine Below.drew ?_) | (with_reducible refine Below.setCell ?_ ?_ _) | (refine Below.trans ?_ (Below.mono (by with_reducible assumption) ?_)) | go_size)))
  · obtain ⟨hbb, hnn⟩ := isRg_iff.1 h
    have HR := Lib.hid h
    go_enter Try.func22, Try.ntmps22
    go_wp2_with (go_at_call 50; (with_reducible refine (r_isRange _ _ _).mono ?_); intro e w1 hr; obtain ⟨rfl, hb, hc, hf, hz⟩ := hr.use; (try simp only [World.size_alloc, World.size_setCell, World.size_drew] at hz); clear hr)
    clear h
    go_loopw [11] (fun v wr => ∃ e : Nat, v = .int .i64 e ∧ e ≤ 17 ∧ (∀ j, j < e → fitBy b n j = false) ∧ Below w.heap.size w wr) (fun v _ => (17 - intOf v).toNat)
    case atStart => exact ⟨0, rfl, by omega, fun j hj => by omega, by (repeat' (first | (with_reducible exact Below.refl _ _) | (with_reducible assumption) | (with_reducible refine Below.alloc ?_ ?_ _) | (with_reducible refine Below.drew ?_) | (with_reducible refine Below.setCell ?_ ?_ _) | (refine Below.trans ?_ (Below.mono (by with_reducible assumption) ?_)) | go_size))⟩
    case round =>
      obtain ⟨e, rfl, he, hj, hbw⟩ := hrel
      have hbz := hbw.size
      have HJ := Lib.hid hj
      clear hj
      by_cases hlt : e < 17
      · cases hf : fitBy b n e
        · go_wp2_with (go_at_call 51; (with_reducible refine (r_fitsBy e b n (by omega) (by omega) (by omega) _).mono ?_); intro e w2 hr; obtain ⟨rfl, hb, hc, hf, hz⟩ := hr.use; (try simp only [World.size_alloc, World.size_setCell, World.size_drew] at hz); clear hr)
          go_roundw
          case rel =>
            refine ⟨e + 1, by go_num, by omega, fun j hj => ?_, by (repeat' (first | (with_reducible exact Below.refl _ _) | (with_reducible assumption) | (with_reducible refine Below.alloc ?_ ?_ _) | (with_reducible refine Below.drew ?_) | (with_reducible refine Below.setCell ?_ ?_ _) | (refine Below.trans ?_ (Below.mono (by with_reducible assumption) ?_)) | go_size))⟩
            rcases Nat.lt_or_ge j e with hl | hl
            · exact HJ.out j hl
            · obtain rfl : j = e := by omega
              exact hf
          case measure => simp [intOf]; omega
        · have HL := Lib.hid (fit_first HR.out hf HJ.out)
          have HF := Lib.hid (fits_some HR.out hf).1
          have HB := Lib.hid hf
          have p0 : (2 : Int) ^ e ≠ 0 := by have p1 := pow_ge e; omega
          have e1 : IntKind.i64.wrap ((2 : Int) ^ e) = 2 ^ e := by
            have p1 := pow_ge e
            have p2 := pow_le16 (e := e) (by omega)
            exact IntWalk.i64_in _ (by omega)
          have q1 : b.tdiv (2 ^ e) = b / 2 ^ e := Int.tdiv_eq_ediv_of_nonneg hbb.1
          have q2 : n.tdiv (2 ^ e) = n / 2 ^ e := Int.tdiv_eq_ediv_of_nonneg hnn.1
          go_wp2_with (go_at_call 51; (with_reducible refine (r_fitsBy e b n (by omega) (by omega) (by omega) _).mono ?_); intro e w2 hr; obtain ⟨rfl, hb, hc, hf, hz⟩ := hr.use; (try simp only [World.size_alloc, World.size_setCell, World.size_drew] at hz); clear hr)
          (refine wp_region_kept (w0 := w) (bs := []) (by kernel_rfl) (by kernel_rfl) (Kept.mk0 (by (repeat' (first | (with_reducible exact Below.refl _ _) | (with_reducible assumption) | (with_reducible refine Below.alloc ?_ ?_ _) | (with_reducible refine Below.drew ?_) | (with_reducible refine Below.setCell ?_ ?_ _) | (refine Below.trans ?_ (Below.mono (by with_reducible assumption) ?_)) | go_size)))) ?_; (repeat (first | go_big_quiet_skip | (go_big_quiet_want; first | (refine BigFrame.quiet_move _ rfl ?_; (simp only [Act.put, Act.eval, Array.getD_eq_getD_getElem?, List.getElem?_toArray, List.getElem?_cons_zero, List.getElem?_cons_succ, Option.getD_some, List.setIfInBounds_toArray, List.set_cons_zero, List.set_cons_succ]); go_big_quiet_on) | (refine BigFrame.quiet_assign _ rfl ?_; (simp only [Act.put, Act.eval, Array.getD_eq_getD_getElem?, List.getElem?_toArray, List.getElem?_cons_zero, List.getElem?_cons_succ, Option.getD_some, List.setIfInBounds_toArray, List.set_cons_zero, List.set_cons_succ]); go_big_quiet_on) | (apply quiet_call; (focus (intro W; go_simp; constructor <;> with_reducible rfl)); (focus (intro W hW; first | fail)); (simp only [Act.put, Act.eval, Array.getD_eq_getD_getElem?, List.getElem?_toArray, List.getElem?_cons_zero, List.getElem?_cons_succ, Option.getD_some, List.setIfInBounds_toArray, List.set_cons_zero, List.set_cons_succ]); go_big_quiet_on) | (apply quiet_run; (focus (intro W hW; obtain ⟨hB, hS, hC, hF⟩ := hW; clear hC hF; (try simp only [List.length_cons, List.length_nil] at hS); go_simp; first | done | with_reducible rfl)); (simp only [Act.put, Act.eval, Array.getD_eq_getD_getElem?, List.getElem?_toArray, List.getElem?_cons_zero, List.getElem?_cons_succ, Option.getD_some, List.setIfInBounds_toArray, List.set_cons_zero, List.set_cons_succ]); go_big_quiet_on)))); refine wpQuiet_nil ?_; intro w1 hW; obtain ⟨hB, hS, hC, hF⟩ := hW; clear hC hF; (try simp only [List.length_cons, List.length_nil] at hS))
          have HV := Lib.hid (short_ref hlt HR.out HB.out)
          have H := Lib.hid (show shortF b n = ((e : Int) * 1048576 + b / 2 ^ e * 16 + n / 2 ^ e, 0) by
            unfold shortF; rw [if_pos HR.out, if_pos HF.out, HL.out])
          simp only [HV.out]
          go_wp2_with fail
          go_returns
          exact Ret.mk (by rw [H.out]; rfl) (by (repeat' (first | (with_reducible exact Below.refl _ _) | (with_reducible assumption) | (with_reducible refine Below.alloc ?_ ?_ _) | (with_reducible refine Below.drew ?_) | (with_reducible refine Below.setCell ?_ ?_ _) | (refine Below.trans ?_ (Below.mono (by with_reducible assumption) ?_)) | go_size)))
      · have H := Lib.hid (show shortF b n = (0, 5) by simp [shortF, HR.out, fits_none HR.out fun j hj => HJ.out j (by omega)])
        go_wp2
        go_returns
        exact Ret.mk (by rw [H.out]; rfl) (by (repeat' (first | (with_reducible exact Below.refl _ _) | (with_reducible assumption) | (with_reducible refine Below.alloc ?_ ?_ _) | (with_reducible refine Below.drew ?_) | (with_reducible refine Below.setCell ?_ ?_ _) | (refine Below.trans ?_ (Below.mono (by with_reducible assumption) ?_)) | go_size)))
end Go.Proofs.Ytmalaomcolgfcaa
