/- The contract of the reference's Numeral: the number that a text tells, and whether it is told just so and lies between two. Conditions: none. -/
import Derived.Test.YtbkjhdohkdeniaaDoorParseE
import Derived.Test.YtbkjhdohkdeniaaDoorDigits
import Derived.Test.YtbkjhdohkdeniaaDoorParseC
namespace Go.Proofs.YtbkjhdohkdeniaaDoor
open Go.RowKit
set_option linter.unusedVariables false
set_option linter.unusedSimpArgs false
set_option maxRecDepth 100000
section
variable {P : Program} {ops : Array Oper} {rest : List Oper} {o : Oper} {a : Act} {T : Nat → Prop} {w0 w : World} {rs : List Res} {K : Act → World → Prop} {Q : Exit → Act → World → Prop}
/-- a string's bytes as a new row, which nobody writes -/
theorem wpI_toBytes (src dst : TypeId) (x : Operand) (ho : o.op = .convert src dst x) (hI : InvT T w0 rs w) {l : List UInt8} (hx : a.eval x = .string (str l)) {u : TypeDesc} {e : TypeId} (hs : P.underlying src = some u) (hd : P.underlying dst = some (.slice e)) (he : P.underlying e = some (.int .u8))
    (h : ∀ g c ob w', (∀ (j : Nat) b, l[j]? = some b → ∀ W : World, W.heap[g]? = some ob → W.cell? ⟨g, j, none⟩ = some (.int .u8 b.toNat)) → InvT T w0 (rs ++ [.obj g ob]) w' → Below w.heap.size w w' → K (a.put o.dst (.slice (some ⟨g, 0, none⟩) l.length c)) w') : o.wp P a w K Q := by
  have hr := Lib.run_convert_string_bytes w src dst e (str l) hs hd he
  unfold Oper.wp execOp
  simp only [ho, hx, Sem.run_bind, Sem.run_pure, Result.andThen_ok, hr, str_size]
  have hb := Lib.bytesWorld_below w e (str l)
  have hn := Lib.bytesWorld_at_new w e (str l)
  refine h _ _ _ _ (fun j b hj W hW => ?_) (hI.more hb (r := .obj w.heap.size _) hn fun k hk => by cases hk; exact Nat.le_refl _) hb
  have hj' := (List.getElem?_eq_some_iff.1 hj).1
  have h2 := Lib.bytesWorld_cell w e (str l) j (by rw [str_size]; exact hj')
  rw [str_list, List.getD_eq_getElem?_getD, hj] at h2
  simp only [Option.getD_some] at h2
  rw [← h2]
  simp only [World.cell?, hW, hn]
end
theorem str_empty {l : List UInt8} (h : l.length = 0) : (str l).toList.isEmpty = true := by rw [Lib.toList_data, str_list, List.length_eq_zero_iff.1 h]; rfl
theorem str_full {l : List UInt8} (h : 0 < l.length) : (str l).toList.isEmpty = false := by
  rw [Lib.toList_data, str_list]
  cases l with
  | nil => simp at h
  | cons => rfl
theorem decV_next {l : List UInt8} {k : Nat} {c : UInt8} (h : l[k]? = some c) : decV (l.take (k + 1)) = 10 * decV (l.take k) + (c.toNat - 48) := by
  rw [List.take_add_one, h]; exact decV_snoc _ _
theorem all_next {l : List UInt8} {k : Nat} {c : UInt8} (h : l[k]? = some c) (ha : (l.take k).all isDig = true) (hc : isDig c = true) : (l.take (k + 1)).all isDig = true := by
  rw [List.take_add_one, h, List.all_append, ha]; simp [hc]
theorem dig_not {l : List UInt8} {k : Nat} {c : UInt8} (h : l[k]? = some c) (hc : isDig c = false) : l.all isDig = false := by
  rw [List.all_eq_false]; exact ⟨c, List.mem_of_getElem? h, by simp [hc]⟩
theorem num_none {s t : List UInt8} {sg low high : Int} (h : signT s = (sg, t)) (hn : t = [] ∨ 12 < t.length ∨ t.all isDig = false) : numV s = 0 ∧ numOk s low high = false := by
  unfold numOk numV
  rw [h, if_pos hn, if_pos hn]
  exact ⟨rfl, rfl⟩
theorem num_some {s t : List UInt8} {sg low high : Int} (h : signT s = (sg, t)) (h0 : t ≠ []) (h1 : t.length ≤ 12) (h2 : t.all isDig = true) : numV s = decV t * sg ∧ numOk s low high = (decide (Lib.itoa (numV s) = s) && (decide (low ≤ numV s) && decide (numV s ≤ high))) := by
  have hn : ¬ (t = [] ∨ 12 < t.length ∨ t.all isDig = false) := by rintro (h | h | h); exact h0 h; omega; rw [h2] at h; cases h
  have hv : numV s = decV t * sg := by unfold numV; rw [h, if_neg hn]
  refine ⟨hv, ?_⟩
  unfold numOk
  rw [h, if_neg hn]
theorem decV_12 {l : List UInt8} (h : l.all isDig = true) (hl : l.length ≤ 12) : decV l < 1000000000000 := Nat.lt_of_lt_of_le (decV_lt l h) (by have := Nat.pow_le_pow_right (show 0 < 10 by decide) hl; simpa using this)
set_option maxHeartbeats 8000000 in
theorem r_Numeral (s : List UInt8) (low high : Int) (w : World) : Calls Tryd.prog 39 #[.string (str s), .int .i64 low, .int .i64 high] w (Ret (.tuple #[.int .i64 (numV s), .bool (numOk s low high)]) w) := by
  have hI := Inv.start w
  by_cases hneg : ∃ r, s = 45 :: r
  · obtain ⟨r, hr⟩ := hneg
    have HS := Lib.hid (show signT s = (-1, r) by rw [hr]; rfl)
    have HP := Lib.hid (fun w => (show (⟨#[45]⟩ : ByteArray).data.toList.isPrefixOf s = true by rw [hr]; rfl) ▸ c_HasB s ⟨#[45]⟩ w)
    have hex : (str s).extract 1 (str s).size = str r := by
      apply WideShapes.bytes_inj
      rw [Lib.extract_data, str_list, str_list, str_size, hr]
      simp
    have hsz : (1 : Int) ≤ ((str s).size : Int) := by rw [str_size, hr]; simp; omega
    have hsz2 : 1 ≤ (str s).size := by omega
    clear hr
    rcases Nat.lt_or_ge 12 r.length with hlong | hshort
    · have HN := Lib.hid (num_none (low := low) (high := high) HS.out (.inr (.inl hlong)))
      have hz : (str r).size = r.length := str_size _
      have hz2 : (12 : Int) < (r.length : Int) := by omega
      have hne := str_full (l := r) (by omega)
      go_enter Tryd.func39, Tryd.ntmps39
      go_wp2_with (first | (go_at_call 38; (with_reducible refine (HP.out _).mono ?_); rintro e w1 ⟨rfl, rfl⟩) | fail)
      (refine wp_region_K [] (by kernel_rfl) hI fun w' hI' hHeld => ?_; (try replace HM1 := Lib.hid (HM1.out.grow hb)); (try replace HM2 := Lib.hid (HM2.out.grow hb)); (try replace HM3 := Lib.hid (HM3.out.grow hb)); (try replace HM4 := Lib.hid (HM4.out.grow hb)); (try clear hb); clear hI; have hI := hI'; clear hI'; (try simp only [List.cons_append, List.nil_append, List.set_cons_zero, List.set_cons_succ, List.setIfInBounds_toArray, Act.put, Act.eval, Array.getD_eq_getD_getElem?, List.getElem?_toArray, List.getElem?_cons_zero, List.getElem?_cons_succ, Option.getD_some] at hI); (try clear c0); (try clear c1); (try clear c2); (try clear c3); (try clear c4); (try clear c5); (try clear c6); (try clear c7); (try clear c8); (try clear c9); (try clear c10); (try clear c11); (try have c0 := hI.cell (i := 0) rfl); (try have c1 := hI.cell (i := 1) rfl); (try have c2 := hI.cell (i := 2) rfl); (try have c3 := hI.cell (i := 3) rfl); (try have c4 := hI.cell (i := 4) rfl); (try have c5 := hI.cell (i := 5) rfl); (try have c6 := hI.cell (i := 6) rfl); (try have c7 := hI.cell (i := 7) rfl); (try have c8 := hI.cell (i := 8) rfl); (try have c9 := hI.cell (i := 9) rfl); (try have c10 := hI.cell (i := 10) rfl); (try have c11 := hI.cell (i := 11) rfl); skip)
      (refine takeH (i := 0) rfl (by kernel_rfl) (by kernel_rfl) (by kernel_rfl) (fun _ _ _ _ h => h) (by rfl) (by first | assumption | exact hI.held (by simp)) ?_; refine' ⟨_, ?_, ?_⟩; rotate_left; (focus (intro w hSw; (try have c0 := hSw.cell 0 (by decide) rfl); (try have c1 := hSw.cell 1 (by decide) rfl); (try have c2 := hSw.cell 2 (by decide) rfl); (try have c3 := hSw.cell 3 (by decide) rfl); (try have c4 := hSw.cell 4 (by decide) rfl); (try have c5 := hSw.cell 5 (by decide) rfl); (try have c6 := hSw.cell 6 (by decide) rfl); (try have c7 := hSw.cell 7 (by decide) rfl); (try have c8 := hSw.cell 8 (by decide) rfl); (try have c9 := hSw.cell 9 (by decide) rfl); (try have c10 := hSw.cell 10 (by decide) rfl); (try have c11 := hSw.cell 11 (by decide) rfl);  go_simp; first | done | with_reducible rfl)); (try simp only [Act.put, List.setIfInBounds_toArray, List.set_cons_zero, List.set_cons_succ])); (refine takeH (i := 1) rfl (by kernel_rfl) (by kernel_rfl) (by kernel_rfl) (fun _ _ _ _ h => h) (by rfl) (by first | assumption | exact hI.held (by simp)) ?_; refine' ⟨_, ?_, ?_⟩; rotate_left; (focus (intro w hSw; (try have c0 := hSw.cell 0 (by decide) rfl); (try have c1 := hSw.cell 1 (by decide) rfl); (try have c2 := hSw.cell 2 (by decide) rfl); (try have c3 := hSw.cell 3 (by decide) rfl); (try have c4 := hSw.cell 4 (by decide) rfl); (try have c5 := hSw.cell 5 (by decide) rfl); (try have c6 := hSw.cell 6 (by decide) rfl); (try have c7 := hSw.cell 7 (by decide) rfl); (try have c8 := hSw.cell 8 (by decide) rfl); (try have c9 := hSw.cell 9 (by decide) rfl); (try have c10 := hSw.cell 10 (by decide) rfl); (try have c11 := hSw.cell 11 (by decide) rfl);  go_simp; first | done | with_reducible rfl)); (try simp only [Act.put, List.setIfInBounds_toArray, List.set_cons_zero, List.set_cons_succ])); (refine takeH (i := 2) rfl (by kernel_rfl) (by kernel_rfl) (by kernel_rfl) (fun _ _ _ _ h => h) (by rfl) (by first | assumption | exact hI.held (by simp)) ?_; refine' ⟨_, ?_, ?_⟩; rotate_left; (focus (intro w hSw; (try have c0 := hSw.cell 0 (by decide) rfl); (try have c1 := hSw.cell 1 (by decide) rfl); (try have c2 := hSw.cell 2 (by decide) rfl); (try have c3 := hSw.cell 3 (by decide) rfl); (try have c4 := hSw.cell 4 (by decide) rfl); (try have c5 := hSw.cell 5 (by decide) rfl); (try have c6 := hSw.cell 6 (by decide) rfl); (try have c7 := hSw.cell 7 (by decide) rfl); (try have c8 := hSw.cell 8 (by decide) rfl); (try have c9 := hSw.cell 9 (by decide) rfl); (try have c10 := hSw.cell 10 (by decide) rfl); (try have c11 := hSw.cell 11 (by decide) rfl);  go_simp; first | done | with_reducible rfl)); (try simp only [Act.put, List.setIfInBounds_toArray, List.set_cons_zero, List.set_cons_succ])); (refine takeH (i := 3) rfl (by kernel_rfl) (by kernel_rfl) (by kernel_rfl) (fun _ _ _ _ h => h) (by rfl) (by first | assumption | exact hI.held (by simp)) ?_; refine' ⟨_, ?_, ?_⟩; rotate_left; (focus (intro w hSw; (try have c0 := hSw.cell 0 (by decide) rfl); (try have c1 := hSw.cell 1 (by decide) rfl); (try have c2 := hSw.cell 2 (by decide) rfl); (try have c3 := hSw.cell 3 (by decide) rfl); (try have c4 := hSw.cell 4 (by decide) rfl); (try have c5 := hSw.cell 5 (by decide) rfl); (try have c6 := hSw.cell 6 (by decide) rfl); (try have c7 := hSw.cell 7 (by decide) rfl); (try have c8 := hSw.cell 8 (by decide) rfl); (try have c9 := hSw.cell 9 (by decide) rfl); (try have c10 := hSw.cell 10 (by decide) rfl); (try have c11 := hSw.cell 11 (by decide) rfl);  go_simp; first | done | with_reducible rfl)); (try simp only [Act.put, List.setIfInBounds_toArray, List.set_cons_zero, List.set_cons_succ]))
      refine wpAnyH_done (by kernel_rfl) ?_ _
      clear hHeld
      go_wp2_with fail
      go_returns
      exact ⟨by rw [HN.out.1, HN.out.2]; rfl, hI.below⟩
    · have hz : (str r).size = r.length := str_size _
      rcases Nat.eq_zero_or_pos r.length with h0 | h0
      · have HN := Lib.hid (num_none (low := low) (high := high) HS.out (.inl (List.length_eq_zero_iff.1 h0)))
        have hne := str_empty h0
        go_enter Tryd.func39, Tryd.ntmps39
        go_wp2_with (first | (go_at_call 38; (with_reducible refine (HP.out _).mono ?_); rintro e w1 ⟨rfl, rfl⟩) | fail)
        (refine wp_region_K [] (by kernel_rfl) hI fun w' hI' hHeld => ?_; (try replace HM1 := Lib.hid (HM1.out.grow hb)); (try replace HM2 := Lib.hid (HM2.out.grow hb)); (try replace HM3 := Lib.hid (HM3.out.grow hb)); (try replace HM4 := Lib.hid (HM4.out.grow hb)); (try clear hb); clear hI; have hI := hI'; clear hI'; (try simp only [List.cons_append, List.nil_append, List.set_cons_zero, List.set_cons_succ, List.setIfInBounds_toArray, Act.put, Act.eval, Array.getD_eq_getD_getElem?, List.getElem?_toArray, List.getElem?_cons_zero, List.getElem?_cons_succ, Option.getD_some] at hI); (try clear c0); (try clear c1); (try clear c2); (try clear c3); (try clear c4); (try clear c5); (try clear c6); (try clear c7); (try clear c8); (try clear c9); (try clear c10); (try clear c11); (try have c0 := hI.cell (i := 0) rfl); (try have c1 := hI.cell (i := 1) rfl); (try have c2 := hI.cell (i := 2) rfl); (try have c3 := hI.cell (i := 3) rfl); (try have c4 := hI.cell (i := 4) rfl); (try have c5 := hI.cell (i := 5) rfl); (try have c6 := hI.cell (i := 6) rfl); (try have c7 := hI.cell (i := 7) rfl); (try have c8 := hI.cell (i := 8) rfl); (try have c9 := hI.cell (i := 9) rfl); (try have c10 := hI.cell (i := 10) rfl); (try have c11 := hI.cell (i := 11) rfl); skip)
        (refine takeH (i := 0) rfl (by kernel_rfl) (by kernel_rfl) (by kernel_rfl) (fun _ _ _ _ h => h) (by rfl) (by first | assumption | exact hI.held (by simp)) ?_; refine' ⟨_, ?_, ?_⟩; rotate_left; (focus (intro w hSw; (try have c0 := hSw.cell 0 (by decide) rfl); (try have c1 := hSw.cell 1 (by decide) rfl); (try have c2 := hSw.cell 2 (by decide) rfl); (try have c3 := hSw.cell 3 (by decide) rfl); (try have c4 := hSw.cell 4 (by decide) rfl); (try have c5 := hSw.cell 5 (by decide) rfl); (try have c6 := hSw.cell 6 (by decide) rfl); (try have c7 := hSw.cell 7 (by decide) rfl); (try have c8 := hSw.cell 8 (by decide) rfl); (try have c9 := hSw.cell 9 (by decide) rfl); (try have c10 := hSw.cell 10 (by decide) rfl); (try have c11 := hSw.cell 11 (by decide) rfl);  go_simp; first | done | with_reducible rfl)); (try simp only [Act.put, List.setIfInBounds_toArray, List.set_cons_zero, List.set_cons_succ])); (refine takeH (i := 1) rfl (by kernel_rfl) (by kernel_rfl) (by kernel_rfl) (fun _ _ _ _ h => h) (by rfl) (by first | assumption | exact hI.held (by simp)) ?_; refine' ⟨_, ?_, ?_⟩; rotate_left; (focus (intro w hSw; (try have c0 := hSw.cell 0 (by decide) rfl); (try have c1 := hSw.cell 1 (by decide) rfl); (try have c2 := hSw.cell 2 (by decide) rfl); (try have c3 := hSw.cell 3 (by decide) rfl); (try have c4 := hSw.cell 4 (by decide) rfl); (try have c5 := hSw.cell 5 (by decide) rfl); (try have c6 := hSw.cell 6 (by decide) rfl); (try have c7 := hSw.cell 7 (by decide) rfl); (try have c8 := hSw.cell 8 (by decide) rfl); (try have c9 := hSw.cell 9 (by decide) rfl); (try have c10 := hSw.cell 10 (by decide) rfl); (try have c11 := hSw.cell 11 (by decide) rfl);  go_simp; first | done | with_reducible rfl)); (try simp only [Act.put, List.setIfInBounds_toArray, List.set_cons_zero, List.set_cons_succ])); (refine takeH (i := 2) rfl (by kernel_rfl) (by kernel_rfl) (by kernel_rfl) (fun _ _ _ _ h => h) (by rfl) (by first | assumption | exact hI.held (by simp)) ?_; refine' ⟨_, ?_, ?_⟩; rotate_left; (focus (intro w hSw; (try have c0 := hSw.cell 0 (by decide) rfl); (try have c1 := hSw.cell 1 (by decide) rfl); (try have c2 := hSw.cell 2 (by decide) rfl); (try have c3 := hSw.cell 3 (by decide) rfl); (try have c4 := hSw.cell 4 (by decide) rfl); (try have c5 := hSw.cell 5 (by decide) rfl); (try have c6 := hSw.cell 6 (by decide) rfl); (try have c7 := hSw.cell 7 (by decide) rfl); (try have c8 := hSw.cell 8 (by decide) rfl); (try have c9 := hSw.cell 9 (by decide) rfl); (try have c10 := hSw.cell 10 (by decide) rfl); (try have c11 := hSw.cell 11 (by decide) rfl);  go_simp; first | done | with_reducible rfl)); (try simp only [Act.put, List.setIfInBounds_toArray, List.set_cons_zero, List.set_cons_succ])); (refine takeH (i := 3) rfl (by kernel_rfl) (by kernel_rfl) (by kernel_rfl) (fun _ _ _ _ h => h) (by rfl) (by first | assumption | exact hI.held (by simp)) ?_; refine' ⟨_, ?_, ?_⟩; rotate_left; (focus (intro w hSw; (try have c0 := hSw.cell 0 (by decide) rfl); (try have c1 := hSw.cell 1 (by decide) rfl); (try have c2 := hSw.cell 2 (by decide) rfl); (try have c3 := hSw.cell 3 (by decide) rfl); (try have c4 := hSw.cell 4 (by decide) rfl); (try have c5 := hSw.cell 5 (by decide) rfl); (try have c6 := hSw.cell 6 (by decide) rfl); (try have c7 := hSw.cell 7 (by decide) rfl); (try have c8 := hSw.cell 8 (by decide) rfl); (try have c9 := hSw.cell 9 (by decide) rfl); (try have c10 := hSw.cell 10 (by decide) rfl); (try have c11 := hSw.cell 11 (by decide) rfl);  go_simp; first | done | with_reducible rfl)); (try simp only [Act.put, List.setIfInBounds_toArray, List.set_cons_zero, List.set_cons_succ]))
        refine wpAnyH_done (by kernel_rfl) ?_ _
        clear hHeld
        go_wp2_with fail
        go_returns
        exact ⟨by rw [HN.out.1, HN.out.2]; rfl, hI.below⟩
      · have hz2 : decide ((12 : Int) < (r.length : Int)) = false := by simp; omega
        have hne := str_full (l := r) (by omega)
        go_enter Tryd.func39, Tryd.ntmps39
        go_wp2_with (first | (go_at_call 38; (with_reducible refine (HP.out _).mono ?_); rintro e w1 ⟨rfl, rfl⟩) | fail)
        (refine wp_region_K [] (by kernel_rfl) hI fun w' hI' hHeld => ?_; (try replace HM1 := Lib.hid (HM1.out.grow hb)); (try replace HM2 := Lib.hid (HM2.out.grow hb)); (try replace HM3 := Lib.hid (HM3.out.grow hb)); (try replace HM4 := Lib.hid (HM4.out.grow hb)); (try clear hb); clear hI; have hI := hI'; clear hI'; (try simp only [List.cons_append, List.nil_append, List.set_cons_zero, List.set_cons_succ, List.setIfInBounds_toArray, Act.put, Act.eval, Array.getD_eq_getD_getElem?, List.getElem?_toArray, List.getElem?_cons_zero, List.getElem?_cons_succ, Option.getD_some] at hI); (try clear c0); (try clear c1); (try clear c2); (try clear c3); (try clear c4); (try clear c5); (try clear c6); (try clear c7); (try clear c8); (try clear c9); (try clear c10); (try clear c11); (try have c0 := hI.cell (i := 0) rfl); (try have c1 := hI.cell (i := 1) rfl); (try have c2 := hI.cell (i := 2) rfl); (try have c3 := hI.cell (i := 3) rfl); (try have c4 := hI.cell (i := 4) rfl); (try have c5 := hI.cell (i := 5) rfl); (try have c6 := hI.cell (i := 6) rfl); (try have c7 := hI.cell (i := 7) rfl); (try have c8 := hI.cell (i := 8) rfl); (try have c9 := hI.cell (i := 9) rfl); (try have c10 := hI.cell (i := 10) rfl); (try have c11 := hI.cell (i := 11) rfl); skip)
        (refine takeH (i := 0) rfl (by kernel_rfl) (by kernel_rfl) (by kernel_rfl) (fun _ _ _ _ h => h) (by rfl) (by first | assumption | exact hI.held (by simp)) ?_; refine' ⟨_, ?_, ?_⟩; rotate_left; (focus (intro w hSw; (try have c0 := hSw.cell 0 (by decide) rfl); (try have c1 := hSw.cell 1 (by decide) rfl); (try have c2 := hSw.cell 2 (by decide) rfl); (try have c3 := hSw.cell 3 (by decide) rfl); (try have c4 := hSw.cell 4 (by decide) rfl); (try have c5 := hSw.cell 5 (by decide) rfl); (try have c6 := hSw.cell 6 (by decide) rfl); (try have c7 := hSw.cell 7 (by decide) rfl); (try have c8 := hSw.cell 8 (by decide) rfl); (try have c9 := hSw.cell 9 (by decide) rfl); (try have c10 := hSw.cell 10 (by decide) rfl); (try have c11 := hSw.cell 11 (by decide) rfl);  go_simp; first | done | with_reducible rfl)); (try simp only [Act.put, List.setIfInBounds_toArray, List.set_cons_zero, List.set_cons_succ])); (refine takeH (i := 1) rfl (by kernel_rfl) (by kernel_rfl) (by kernel_rfl) (fun _ _ _ _ h => h) (by rfl) (by first | assumption | exact hI.held (by simp)) ?_; refine' ⟨_, ?_, ?_⟩; rotate_left; (focus (intro w hSw; (try have c0 := hSw.cell 0 (by decide) rfl); (try have c1 := hSw.cell 1 (by decide) rfl); (try have c2 := hSw.cell 2 (by decide) rfl); (try have c3 := hSw.cell 3 (by decide) rfl); (try have c4 := hSw.cell 4 (by decide) rfl); (try have c5 := hSw.cell 5 (by decide) rfl); (try have c6 := hSw.cell 6 (by decide) rfl); (try have c7 := hSw.cell 7 (by decide) rfl); (try have c8 := hSw.cell 8 (by decide) rfl); (try have c9 := hSw.cell 9 (by decide) rfl); (try have c10 := hSw.cell 10 (by decide) rfl); (try have c11 := hSw.cell 11 (by decide) rfl);  go_simp; first | done | with_reducible rfl)); (try simp only [Act.put, List.setIfInBounds_toArray, List.set_cons_zero, List.set_cons_succ])); (refine takeH (i := 2) rfl (by kernel_rfl) (by kernel_rfl) (by kernel_rfl) (fun _ _ _ _ h => h) (by rfl) (by first | assumption | exact hI.held (by simp)) ?_; refine' ⟨_, ?_, ?_⟩; rotate_left; (focus (intro w hSw; (try have c0 := hSw.cell 0 (by decide) rfl); (try have c1 := hSw.cell 1 (by decide) rfl); (try have c2 := hSw.cell 2 (by decide) rfl); (try have c3 := hSw.cell 3 (by decide) rfl); (try have c4 := hSw.cell 4 (by decide) rfl); (try have c5 := hSw.cell 5 (by decide) rfl); (try have c6 := hSw.cell 6 (by decide) rfl); (try have c7 := hSw.cell 7 (by decide) rfl); (try have c8 := hSw.cell 8 (by decide) rfl); (try have c9 := hSw.cell 9 (by decide) rfl); (try have c10 := hSw.cell 10 (by decide) rfl); (try have c11 := hSw.cell 11 (by decide) rfl);  go_simp; first | done | with_reducible rfl)); (try simp only [Act.put, List.setIfInBounds_toArray, List.set_cons_zero, List.set_cons_succ])); (refine takeH (i := 3) rfl (by kernel_rfl) (by kernel_rfl) (by kernel_rfl) (fun _ _ _ _ h => h) (by rfl) (by first | assumption | exact hI.held (by simp)) ?_; refine' ⟨_, ?_, ?_⟩; rotate_left; (focus (intro w hSw; (try have c0 := hSw.cell 0 (by decide) rfl); (try have c1 := hSw.cell 1 (by decide) rfl); (try have c2 := hSw.cell 2 (by decide) rfl); (try have c3 := hSw.cell 3 (by decide) rfl); (try have c4 := hSw.cell 4 (by decide) rfl); (try have c5 := hSw.cell 5 (by decide) rfl); (try have c6 := hSw.cell 6 (by decide) rfl); (try have c7 := hSw.cell 7 (by decide) rfl); (try have c8 := hSw.cell 8 (by decide) rfl); (try have c9 := hSw.cell 9 (by decide) rfl); (try have c10 := hSw.cell 10 (by decide) rfl); (try have c11 := hSw.cell 11 (by decide) rfl);  go_simp; first | done | with_reducible rfl)); (try simp only [Act.put, List.setIfInBounds_toArray, List.set_cons_zero, List.set_cons_succ]))
        refine wpAnyH_done (by kernel_rfl) ?_ _
        clear hHeld
        go_wp2_with (first | ((refine listI rfl fun K hK => wpI_toBytes _ _ _ rfl hI rfl Tryd.underlying9 Tryd.underlying69 Tryd.underlying5 fun gb cb ob w' hcel hI' hb => hK _ _ ?_; clear hK K; (try replace HM1 := Lib.hid (HM1.out.grow hb)); (try replace HM2 := Lib.hid (HM2.out.grow hb)); (try replace HM3 := Lib.hid (HM3.out.grow hb)); (try replace HM4 := Lib.hid (HM4.out.grow hb)); (try clear hb); clear hI; have hI := hI'; clear hI'; (try simp only [List.cons_append, List.nil_append, List.set_cons_zero, List.set_cons_succ, List.setIfInBounds_toArray, Act.put, Act.eval, Array.getD_eq_getD_getElem?, List.getElem?_toArray, List.getElem?_cons_zero, List.getElem?_cons_succ, Option.getD_some] at hI); (try clear c0); (try clear c1); (try clear c2); (try clear c3); (try clear c4); (try clear c5); (try clear c6); (try clear c7); (try clear c8); (try clear c9); (try clear c10); (try clear c11); (try have c0 := hI.cell (i := 0) rfl); (try have c1 := hI.cell (i := 1) rfl); (try have c2 := hI.cell (i := 2) rfl); (try have c3 := hI.cell (i := 3) rfl); (try have c4 := hI.cell (i := 4) rfl); (try have c5 := hI.cell (i := 5) rfl); (try have c6 := hI.cell (i := 6) rfl); (try have c7 := hI.cell (i := 7) rfl); (try have c8 := hI.cell (i := 8) rfl); (try have c9 := hI.cell (i := 9) rfl); (try have c10 := hI.cell (i := 10) rfl); (try have c11 := hI.cell (i := 11) rfl); skip); have HCE := Lib.hid hcel; clear hcel) | fail)
        go_loopw [8, 12, 28] (fun v8 _ v wr => ∃ (k : Nat) (n : Int), v = .int .i64 k ∧ v8 = .int .i64 n ∧ n = (decV (r.take k) : Nat) ∧ k ≤ r.length ∧ (r.take k).all isDig = true ∧ Inv w [.obj gb ob] wr) (fun _ _ v _ => (r.length - intOf v).toNat)
        case atStart => exact ⟨0, 0, rfl, rfl, rfl, by omega, rfl, hI⟩
        case round =>
          clear hI
          obtain ⟨k, n, rfl, rfl, hn, hk, hall, hI⟩ := hrel
          have hnb := decV_12 hall (by rw [List.length_take]; omega)
          have hn0 : 0 ≤ n ∧ n < 1000000000000 := by omega
          have HA := Lib.hid hall
          have HN := Lib.hid hn
          clear hall hn hnb
          rcases Nat.lt_or_ge k r.length with hlt | hge
          · obtain ⟨c, hc⟩ : ∃ c, r[k]? = some c := ⟨_, List.getElem?_eq_getElem hlt⟩
            have hcw := HCE.out k c hc wr (hI.ok 0 _ rfl)
            have hjt : decide ((k : Int) < (r.length : Int)) = true := by simp; omega
            have hc8 := c.toNat_lt
            cases hd : isDig c
            · have HNN := Lib.hid (num_none (low := low) (high := high) HS.out (.inr (.inr (dig_not hc hd))))
              rcases Nat.lt_or_ge c.toNat 48 with h1 | h1
              · have ht1 : (c.toNat : Int) < 48 := by omega
                go_wp2_with fail
                go_returns
                exact ⟨by rw [HNN.out.1, HNN.out.2]; rfl, hI.below⟩
              · have ht1 : decide ((c.toNat : Int) < 48) = false := by simp; omega
                have ht2 : (57 : Int) < (c.toNat : Int) := by simp [isDig] at hd; omega
                go_wp2_with fail
                go_returns
                exact ⟨by rw [HNN.out.1, HNN.out.2]; rfl, hI.below⟩
            · have hd2 : 48 ≤ c.toNat ∧ c.toNat ≤ 57 := by simpa [isDig] using hd
              have HNX := Lib.hid (decV_next hc)
              have HAX := Lib.hid (all_next hc HA.out hd)
              have ht1 : decide ((c.toNat : Int) < 48) = false := by simp; omega
              have ht2 : decide ((57 : Int) < (c.toNat : Int)) = false := by simp; omega
              have hw1 : wrap64 (10 * n) = 10 * n := by unfold wrap64; omega
              have hw2 : ((c.toNat : Int) - 48) % 256 = (c.toNat : Int) - 48 := by omega
              have hw3 : wrap64 (10 * n + ((c.toNat : Int) - 48)) = 10 * n + ((c.toNat : Int) - 48) := by unfold wrap64; omega
              clear hc hd
              go_wp2_with fail
              go_roundw
              case rel => exact ⟨k + 1, 10 * n + ((c.toNat : Int) - 48), by go_num, rfl, by rw [HNX.out, HN.out]; omega, by omega, HAX.out, hI⟩
              case measure => simp [intOf]; omega
          · obtain rfl : k = r.length := by omega
            have hjt : decide ((r.length : Int) < (r.length : Int)) = false := by simp
            have hfa := HA.out
            have hfn := HN.out
            rw [List.take_length] at hfa hfn
            obtain ⟨hv, hok⟩ := num_some (low := low) (high := high) HS.out (by rintro rfl; simp at h0) hshort hfa
            rw [← hfn] at hv
            have hwm : wrap64 (n * -1) = n * -1 := by unfold wrap64; omega
            have hvi : i64 (n * -1) := by unfold i64; omega
            rw [← hv] at hwm hvi
            have hv' : n * -1 = numV s := hv.symm
            have HD := Lib.hid (r_Digits (numV s) hvi)
            have HOK := Lib.hid hok
            clear hfa hfn hv hok hvi
            generalize numV s = nv at *
            cases hd : decide (Lib.itoa nv = s)
            · have hb : ((str (Lib.itoa nv)).toList == (str s).toList) = false := ba_ne fun h => of_decide_eq_false hd (str_inj.1 h)
              have HR := Lib.hid (show numOk s low high = false by rw [HOK.out, hd]; rfl)
              clear hd
              go_wp2_with (first | (go_at_call 28; (with_reducible refine (HD.out _).mono ?_); intro e w' hr; obtain ⟨rfl, hb⟩ := hr; have hI' := hI.on hb; (try replace HM1 := Lib.hid (HM1.out.grow hb)); (try replace HM2 := Lib.hid (HM2.out.grow hb)); (try replace HM3 := Lib.hid (HM3.out.grow hb)); (try replace HM4 := Lib.hid (HM4.out.grow hb)); (try clear hb); clear hI; have hI := hI'; clear hI'; (try simp only [List.cons_append, List.nil_append, List.set_cons_zero, List.set_cons_succ, List.setIfInBounds_toArray, Act.put, Act.eval, Array.getD_eq_getD_getElem?, List.getElem?_toArray, List.getElem?_cons_zero, List.getElem?_cons_succ, Option.getD_some] at hI); (try clear c0); (try clear c1); (try clear c2); (try clear c3); (try clear c4); (try clear c5); (try clear c6); (try clear c7); (try clear c8); (try clear c9); (try clear c10); (try clear c11); (try have c0 := hI.cell (i := 0) rfl); (try have c1 := hI.cell (i := 1) rfl); (try have c2 := hI.cell (i := 2) rfl); (try have c3 := hI.cell (i := 3) rfl); (try have c4 := hI.cell (i := 4) rfl); (try have c5 := hI.cell (i := 5) rfl); (try have c6 := hI.cell (i := 6) rfl); (try have c7 := hI.cell (i := 7) rfl); (try have c8 := hI.cell (i := 8) rfl); (try have c9 := hI.cell (i := 9) rfl); (try have c10 := hI.cell (i := 10) rfl); (try have c11 := hI.cell (i := 11) rfl); skip) | fail)
              go_returns
              exact ⟨by rw [HR.out]; rfl, hI.below⟩
            · have hb : ((str (Lib.itoa nv)).toList == (str s).toList) = true := by rw [of_decide_eq_true hd]; exact beq_self_eq_true _
              cases h1 : decide (low ≤ nv)
              · have HR := Lib.hid (show numOk s low high = false by rw [HOK.out, hd, h1]; rfl)
                clear hd
                go_wp2_with (first | (go_at_call 28; (with_reducible refine (HD.out _).mono ?_); intro e w' hr; obtain ⟨rfl, hb⟩ := hr; have hI' := hI.on hb; (try replace HM1 := Lib.hid (HM1.out.grow hb)); (try replace HM2 := Lib.hid (HM2.out.grow hb)); (try replace HM3 := Lib.hid (HM3.out.grow hb)); (try replace HM4 := Lib.hid (HM4.out.grow hb)); (try clear hb); clear hI; have hI := hI'; clear hI'; (try simp only [List.cons_append, List.nil_append, List.set_cons_zero, List.set_cons_succ, List.setIfInBounds_toArray, Act.put, Act.eval, Array.getD_eq_getD_getElem?, List.getElem?_toArray, List.getElem?_cons_zero, List.getElem?_cons_succ, Option.getD_some] at hI); (try clear c0); (try clear c1); (try clear c2); (try clear c3); (try clear c4); (try clear c5); (try clear c6); (try clear c7); (try clear c8); (try clear c9); (try clear c10); (try clear c11); (try have c0 := hI.cell (i := 0) rfl); (try have c1 := hI.cell (i := 1) rfl); (try have c2 := hI.cell (i := 2) rfl); (try have c3 := hI.cell (i := 3) rfl); (try have c4 := hI.cell (i := 4) rfl); (try have c5 := hI.cell (i := 5) rfl); (try have c6 := hI.cell (i := 6) rfl); (try have c7 := hI.cell (i := 7) rfl); (try have c8 := hI.cell (i := 8) rfl); (try have c9 := hI.cell (i := 9) rfl); (try have c10 := hI.cell (i := 10) rfl); (try have c11 := hI.cell (i := 11) rfl); skip) | fail)
                go_returns
                exact ⟨by rw [HR.out]; rfl, hI.below⟩
              · have HR := Lib.hid (show numOk s low high = decide (nv ≤ high) by rw [HOK.out, hd, h1]; rfl)
                clear hd
                go_wp2_with (first | (go_at_call 28; (with_reducible refine (HD.out _).mono ?_); intro e w' hr; obtain ⟨rfl, hb⟩ := hr; have hI' := hI.on hb; (try replace HM1 := Lib.hid (HM1.out.grow hb)); (try replace HM2 := Lib.hid (HM2.out.grow hb)); (try replace HM3 := Lib.hid (HM3.out.grow hb)); (try replace HM4 := Lib.hid (HM4.out.grow hb)); (try clear hb); clear hI; have hI := hI'; clear hI'; (try simp only [List.cons_append, List.nil_append, List.set_cons_zero, List.set_cons_succ, List.setIfInBounds_toArray, Act.put, Act.eval, Array.getD_eq_getD_getElem?, List.getElem?_toArray, List.getElem?_cons_zero, List.getElem?_cons_succ, Option.getD_some] at hI); (try clear c0); (try clear c1); (try clear c2); (try clear c3); (try clear c4); (try clear c5); (try clear c6); (try clear c7); (try clear c8); (try clear c9); (try clear c10); (try clear c11); (try have c0 := hI.cell (i := 0) rfl); (try have c1 := hI.cell (i := 1) rfl); (try have c2 := hI.cell (i := 2) rfl); (try have c3 := hI.cell (i := 3) rfl); (try have c4 := hI.cell (i := 4) rfl); (try have c5 := hI.cell (i := 5) rfl); (try have c6 := hI.cell (i := 6) rfl); (try have c7 := hI.cell (i := 7) rfl); (try have c8 := hI.cell (i := 8) rfl); (try have c9 := hI.cell (i := 9) rfl); (try have c10 := hI.cell (i := 10) rfl); (try have c11 := hI.cell (i := 11) rfl); skip) | fail)
                go_returns
                exact ⟨by rw [HR.out]; rfl, hI.below⟩
  · have HS := Lib.hid (show signT s = (1, s) by
      cases s with
      | nil => rfl
      | cons c r => simp only [signT]; rw [if_neg]; rintro rfl; exact hneg ⟨r, rfl⟩)
    have HP := Lib.hid (fun w => (show (⟨#[45]⟩ : ByteArray).data.toList.isPrefixOf s = false by
      cases s with
      | nil => rfl
      | cons c r => simp [List.isPrefixOf]; exact fun h => hneg ⟨r, by rw [h]⟩) ▸ c_HasB s ⟨#[45]⟩ w)
    clear hneg
    rcases Nat.lt_or_ge 12 s.length with hlong | hshort
    · have HN := Lib.hid (num_none (low := low) (high := high) HS.out (.inr (.inl hlong)))
      have hz : (str s).size = s.length := str_size _
      have hz2 : (12 : Int) < (s.length : Int) := by omega
      have hne := str_full (l := s) (by omega)
      go_enter Tryd.func39, Tryd.ntmps39
      go_wp2_with (first | (go_at_call 38; (with_reducible refine (HP.out _).mono ?_); rintro e w1 ⟨rfl, rfl⟩) | fail)
      go_wp2_with fail
      go_returns
      exact ⟨by rw [HN.out.1, HN.out.2]; rfl, hI.below⟩
    · have hz : (str s).size = s.length := str_size _
      rcases Nat.eq_zero_or_pos s.length with h0 | h0
      · have HN := Lib.hid (num_none (low := low) (high := high) HS.out (.inl (List.length_eq_zero_iff.1 h0)))
        have hne := str_empty h0
        go_enter Tryd.func39, Tryd.ntmps39
        go_wp2_with (first | (go_at_call 38; (with_reducible refine (HP.out _).mono ?_); rintro e w1 ⟨rfl, rfl⟩) | fail)
        go_wp2_with fail
        go_returns
        exact ⟨by rw [HN.out.1, HN.out.2]; rfl, hI.below⟩
      · have hz2 : decide ((12 : Int) < (s.length : Int)) = false := by simp; omega
        have hne := str_full (l := s) (by omega)
        go_enter Tryd.func39, Tryd.ntmps39
        go_wp2_with (first | (go_at_call 38; (with_reducible refine (HP.out _).mono ?_); rintro e w1 ⟨rfl, rfl⟩) | ((refine listI rfl fun K hK => wpI_toBytes _ _ _ rfl hI rfl Tryd.underlying9 Tryd.underlying69 Tryd.underlying5 fun gb cb ob w' hcel hI' hb => hK _ _ ?_; clear hK K; (try replace HM1 := Lib.hid (HM1.out.grow hb)); (try replace HM2 := Lib.hid (HM2.out.grow hb)); (try replace HM3 := Lib.hid (HM3.out.grow hb)); (try replace HM4 := Lib.hid (HM4.out.grow hb)); (try clear hb); clear hI; have hI := hI'; clear hI'; (try simp only [List.cons_append, List.nil_append, List.set_cons_zero, List.set_cons_succ, List.setIfInBounds_toArray, Act.put, Act.eval, Array.getD_eq_getD_getElem?, List.getElem?_toArray, List.getElem?_cons_zero, List.getElem?_cons_succ, Option.getD_some] at hI); (try clear c0); (try clear c1); (try clear c2); (try clear c3); (try clear c4); (try clear c5); (try clear c6); (try clear c7); (try clear c8); (try clear c9); (try clear c10); (try clear c11); (try have c0 := hI.cell (i := 0) rfl); (try have c1 := hI.cell (i := 1) rfl); (try have c2 := hI.cell (i := 2) rfl); (try have c3 := hI.cell (i := 3) rfl); (try have c4 := hI.cell (i := 4) rfl); (try have c5 := hI.cell (i := 5) rfl); (try have c6 := hI.cell (i := 6) rfl); (try have c7 := hI.cell (i := 7) rfl); (try have c8 := hI.cell (i := 8) rfl); (try have c9 := hI.cell (i := 9) rfl); (try have c10 := hI.cell (i := 10) rfl); (try have c11 := hI.cell (i := 11) rfl); skip); have HCE := Lib.hid hcel; clear hcel) | fail)
        go_loopw [8, 12, 28] (fun v8 _ v wr => ∃ (k : Nat) (n : Int), v = .int .i64 k ∧ v8 = .int .i64 n ∧ n = (decV (s.take k) : Nat) ∧ k ≤ s.length ∧ (s.take k).all isDig = true ∧ Inv w [.obj gb ob] wr) (fun _ _ v _ => (s.length - intOf v).toNat)
        case atStart => exact ⟨0, 0, rfl, rfl, rfl, by omega, rfl, hI⟩
        case round =>
          clear hI
          obtain ⟨k, n, rfl, rfl, hn, hk, hall, hI⟩ := hrel
          have hnb := decV_12 hall (by rw [List.length_take]; omega)
          have hn0 : 0 ≤ n ∧ n < 1000000000000 := by omega
          have HA := Lib.hid hall
          have HN := Lib.hid hn
          clear hall hn hnb
          rcases Nat.lt_or_ge k s.length with hlt | hge
          · obtain ⟨c, hc⟩ : ∃ c, s[k]? = some c := ⟨_, List.getElem?_eq_getElem hlt⟩
            have hcw := HCE.out k c hc wr (hI.ok 0 _ rfl)
            have hjt : decide ((k : Int) < (s.length : Int)) = true := by simp; omega
            have hc8 := c.toNat_lt
            cases hd : isDig c
            · have HNN := Lib.hid (num_none (low := low) (high := high) HS.out (.inr (.inr (dig_not hc hd))))
              rcases Nat.lt_or_ge c.toNat 48 with h1 | h1
              · have ht1 : (c.toNat : Int) < 48 := by omega
                go_wp2_with fail
                go_returns
                exact ⟨by rw [HNN.out.1, HNN.out.2]; rfl, hI.below⟩
              · have ht1 : decide ((c.toNat : Int) < 48) = false := by simp; omega
                have ht2 : (57 : Int) < (c.toNat : Int) := by simp [isDig] at hd; omega
                go_wp2_with fail
                go_returns
                exact ⟨by rw [HNN.out.1, HNN.out.2]; rfl, hI.below⟩
            · have hd2 : 48 ≤ c.toNat ∧ c.toNat ≤ 57 := by simpa [isDig] using hd
              have HNX := Lib.hid (decV_next hc)
              have HAX := Lib.hid (all_next hc HA.out hd)
              have ht1 : decide ((c.toNat : Int) < 48) = false := by simp; omega
              have ht2 : decide ((57 : Int) < (c.toNat : Int)) = false := by simp; omega
              have hw1 : wrap64 (10 * n) = 10 * n := by unfold wrap64; omega
              have hw2 : ((c.toNat : Int) - 48) % 256 = (c.toNat : Int) - 48 := by omega
              have hw3 : wrap64 (10 * n + ((c.toNat : Int) - 48)) = 10 * n + ((c.toNat : Int) - 48) := by unfold wrap64; omega
              clear hc hd
              go_wp2_with fail
              go_roundw
              case rel => exact ⟨k + 1, 10 * n + ((c.toNat : Int) - 48), by go_num, rfl, by rw [HNX.out, HN.out]; omega, by omega, HAX.out, hI⟩
              case measure => simp [intOf]; omega
          · obtain rfl : k = s.length := by omega
            have hjt : decide ((s.length : Int) < (s.length : Int)) = false := by simp
            have hfa := HA.out
            have hfn := HN.out
            rw [List.take_length] at hfa hfn
            obtain ⟨hv, hok⟩ := num_some (low := low) (high := high) HS.out (by rintro rfl; simp at h0) hshort hfa
            rw [← hfn] at hv
            have hwm : wrap64 (n * 1) = n * 1 := by unfold wrap64; omega
            have hvi : i64 (n * 1) := by unfold i64; omega
            rw [← hv] at hwm hvi
            have hv' : n * 1 = numV s := hv.symm
            have HD := Lib.hid (r_Digits (numV s) hvi)
            have HOK := Lib.hid hok
            clear hfa hfn hv hok hvi
            generalize numV s = nv at *
            cases hd : decide (Lib.itoa nv = s)
            · have hb : ((str (Lib.itoa nv)).toList == (str s).toList) = false := ba_ne fun h => of_decide_eq_false hd (str_inj.1 h)
              have HR := Lib.hid (show numOk s low high = false by rw [HOK.out, hd]; rfl)
              clear hd
              go_wp2_with (first | (go_at_call 28; (with_reducible refine (HD.out _).mono ?_); intro e w' hr; obtain ⟨rfl, hb⟩ := hr; have hI' := hI.on hb; (try replace HM1 := Lib.hid (HM1.out.grow hb)); (try replace HM2 := Lib.hid (HM2.out.grow hb)); (try replace HM3 := Lib.hid (HM3.out.grow hb)); (try replace HM4 := Lib.hid (HM4.out.grow hb)); (try clear hb); clear hI; have hI := hI'; clear hI'; (try simp only [List.cons_append, List.nil_append, List.set_cons_zero, List.set_cons_succ, List.setIfInBounds_toArray, Act.put, Act.eval, Array.getD_eq_getD_getElem?, List.getElem?_toArray, List.getElem?_cons_zero, List.getElem?_cons_succ, Option.getD_some] at hI); (try clear c0); (try clear c1); (try clear c2); (try clear c3); (try clear c4); (try clear c5); (try clear c6); (try clear c7); (try clear c8); (try clear c9); (try clear c10); (try clear c11); (try have c0 := hI.cell (i := 0) rfl); (try have c1 := hI.cell (i := 1) rfl); (try have c2 := hI.cell (i := 2) rfl); (try have c3 := hI.cell (i := 3) rfl); (try have c4 := hI.cell (i := 4) rfl); (try have c5 := hI.cell (i := 5) rfl); (try have c6 := hI.cell (i := 6) rfl); (try have c7 := hI.cell (i := 7) rfl); (try have c8 := hI.cell (i := 8) rfl); (try have c9 := hI.cell (i := 9) rfl); (try have c10 := hI.cell (i := 10) rfl); (try have c11 := hI.cell (i := 11) rfl); skip) | fail)
              go_returns
              exact ⟨by rw [HR.out]; rfl, hI.below⟩
            · have hb : ((str (Lib.itoa nv)).toList == (str s).toList) = true := by rw [of_decide_eq_true hd]; exact beq_self_eq_true _
              cases h1 : decide (low ≤ nv)
              · have HR := Lib.hid (show numOk s low high = false by rw [HOK.out, hd, h1]; rfl)
                clear hd
                go_wp2_with (first | (go_at_call 28; (with_reducible refine (HD.out _).mono ?_); intro e w' hr; obtain ⟨rfl, hb⟩ := hr; have hI' := hI.on hb; (try replace HM1 := Lib.hid (HM1.out.grow hb)); (try replace HM2 := Lib.hid (HM2.out.grow hb)); (try replace HM3 := Lib.hid (HM3.out.grow hb)); (try replace HM4 := Lib.hid (HM4.out.grow hb)); (try clear hb); clear hI; have hI := hI'; clear hI'; (try simp only [List.cons_append, List.nil_append, List.set_cons_zero, List.set_cons_succ, List.setIfInBounds_toArray, Act.put, Act.eval, Array.getD_eq_getD_getElem?, List.getElem?_toArray, List.getElem?_cons_zero, List.getElem?_cons_succ, Option.getD_some] at hI); (try clear c0); (try clear c1); (try clear c2); (try clear c3); (try clear c4); (try clear c5); (try clear c6); (try clear c7); (try clear c8); (try clear c9); (try clear c10); (try clear c11); (try have c0 := hI.cell (i := 0) rfl); (try have c1 := hI.cell (i := 1) rfl); (try have c2 := hI.cell (i := 2) rfl); (try have c3 := hI.cell (i := 3) rfl); (try have c4 := hI.cell (i := 4) rfl); (try have c5 := hI.cell (i := 5) rfl); (try have c6 := hI.cell (i := 6) rfl); (try have c7 := hI.cell (i := 7) rfl); (try have c8 := hI.cell (i := 8) rfl); (try have c9 := hI.cell (i := 9) rfl); (try have c10 := hI.cell (i := 10) rfl); (try have c11 := hI.cell (i := 11) rfl); skip) | fail)
                go_returns
                exact ⟨by rw [HR.out]; rfl, hI.below⟩
              · have HR := Lib.hid (show numOk s low high = decide (nv ≤ high) by rw [HOK.out, hd, h1]; rfl)
                clear hd
                go_wp2_with (first | (go_at_call 28; (with_reducible refine (HD.out _).mono ?_); intro e w' hr; obtain ⟨rfl, hb⟩ := hr; have hI' := hI.on hb; (try replace HM1 := Lib.hid (HM1.out.grow hb)); (try replace HM2 := Lib.hid (HM2.out.grow hb)); (try replace HM3 := Lib.hid (HM3.out.grow hb)); (try replace HM4 := Lib.hid (HM4.out.grow hb)); (try clear hb); clear hI; have hI := hI'; clear hI'; (try simp only [List.cons_append, List.nil_append, List.set_cons_zero, List.set_cons_succ, List.setIfInBounds_toArray, Act.put, Act.eval, Array.getD_eq_getD_getElem?, List.getElem?_toArray, List.getElem?_cons_zero, List.getElem?_cons_succ, Option.getD_some] at hI); (try clear c0); (try clear c1); (try clear c2); (try clear c3); (try clear c4); (try clear c5); (try clear c6); (try clear c7); (try clear c8); (try clear c9); (try clear c10); (try clear c11); (try have c0 := hI.cell (i := 0) rfl); (try have c1 := hI.cell (i := 1) rfl); (try have c2 := hI.cell (i := 2) rfl); (try have c3 := hI.cell (i := 3) rfl); (try have c4 := hI.cell (i := 4) rfl); (try have c5 := hI.cell (i := 5) rfl); (try have c6 := hI.cell (i := 6) rfl); (try have c7 := hI.cell (i := 7) rfl); (try have c8 := hI.cell (i := 8) rfl); (try have c9 := hI.cell (i := 9) rfl); (try have c10 := hI.cell (i := 10) rfl); (try have c11 := hI.cell (i := 11) rfl); skip) | fail)
                go_returns
                exact ⟨by rw [HR.out]; rfl, hI.below⟩
end Go.Proofs.YtbkjhdohkdeniaaDoor
