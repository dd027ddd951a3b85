/- The reference's Digits tells a number as strconv.Itoa does. Conditions: none. -/
import Derived.Test.YtbkjhdohkdeniaaDoorTextM
import Derived.Test.YtbkjhdohkdeniaaDoorBytes2
namespace Go.Proofs.YtbkjhdohkdeniaaDoor
open Go.RowKit
set_option linter.unusedVariables false
set_option linter.unusedSimpArgs false
set_option maxRecDepth 100000
theorem u8_dig {d : Nat} (h : d < 10) (n : Int) (hn : n = 48 + (d : Int)) : u8 n = UInt8.ofNat (48 + d) := by
  subst hn
  unfold u8
  congr 1
  omega
def chrL (n : Int) : List UInt8 := [u8 n]
theorem chrL_dig {d : Nat} (h : d < 10) (n : Int) (hn : n = 48 + (d : Int)) : chrL n = [UInt8.ofNat (48 + d)] := by unfold chrL; rw [u8_dig h n hn]
theorem chrL_len (n : Int) : (str (chrL n)).size = 1 := str_size _
theorem r_chrL (n : Int) (w : World) : Calls Tryd.prog 57 #[.int .i64 n] w (Ret (.string (str (chrL n))) w) := r_chr n w
theorem r_Digits_pos (k : Nat) : ∀ (n : Int), 0 ≤ n → n.toNat ≤ k → n ≤ 9223372036854775807 → ∀ w : World, Calls Tryd.prog 28 #[.int .i64 n] w (Ret (.string (str (Lib.decDigits n.toNat))) w) := by
  induction k with
  | zero =>
    intro n h0 h1 h2 w
    obtain rfl : n = 0 := by omega
    have hI := Inv.start w
    have e : str [u8 48] = str (Lib.decDigits (0 : Int).toNat) := by rw [u8_dig (d := 0) (by omega) 48 rfl, ← dec_small (by omega)]; rfl
    have HC := Lib.hid (fun w => e ▸ r_chr 48 w)
    clear e
    go_enter Tryd.func28, Tryd.ntmps28
    go_wp2_with (first | (go_at_call 57; (with_reducible refine (HC.out _).mono ?_); intro e w' hr; obtain ⟨rfl, hb⟩ := hr; have hI' := hI.on hb; (try replace HM1 := Lib.hid (HM1.out.grow hb)); (try replace HM2 := Lib.hid (HM2.out.grow hb)); (try replace HM3 := Lib.hid (HM3.out.grow hb)); (try replace HM4 := Lib.hid (HM4.out.grow hb)); (try clear hb); clear hI; have hI := hI'; clear hI'; (try simp only [List.cons_append, List.nil_append, List.set_cons_zero, List.set_cons_succ, List.setIfInBounds_toArray, Act.put, Act.eval, Array.getD_eq_getD_getElem?, List.getElem?_toArray, List.getElem?_cons_zero, List.getElem?_cons_succ, Option.getD_some] at hI); (try clear c0); (try clear c1); (try clear c2); (try clear c3); (try clear c4); (try clear c5); (try clear c6); (try clear c7); (try clear c8); (try clear c9); (try clear c10); (try clear c11); (try have c0 := hI.cell (i := 0) rfl); (try have c1 := hI.cell (i := 1) rfl); (try have c2 := hI.cell (i := 2) rfl); (try have c3 := hI.cell (i := 3) rfl); (try have c4 := hI.cell (i := 4) rfl); (try have c5 := hI.cell (i := 5) rfl); (try have c6 := hI.cell (i := 6) rfl); (try have c7 := hI.cell (i := 7) rfl); (try have c8 := hI.cell (i := 8) rfl); (try have c9 := hI.cell (i := 9) rfl); (try have c10 := hI.cell (i := 10) rfl); (try have c11 := hI.cell (i := 11) rfl); skip) | fail)
    go_returns
    exact ⟨rfl, hI.below⟩
  | succ k ih =>
    intro n h0 h1 h2 w
    have hI := Inv.start w
    have hd0 : decide (n < 0) = false := by simp; omega
    by_cases h10 : n < 10
    · have hd1 : decide (n < 10) = true := by simp; omega
      have e : str [u8 (48 + n)] = str (Lib.decDigits n.toNat) := by rw [u8_dig (d := n.toNat) (by omega) (48 + n) (by omega), ← dec_small (by omega)]
      have hw : wrap64 (48 + n) = 48 + n := by unfold wrap64; omega
      have HC := Lib.hid (fun w => e ▸ r_chr (48 + n) w)
      clear e ih
      go_enter Tryd.func28, Tryd.ntmps28
      go_wp2_with (first | (go_at_call 57; (with_reducible refine (HC.out _).mono ?_); intro e w' hr; obtain ⟨rfl, hb⟩ := hr; have hI' := hI.on hb; (try replace HM1 := Lib.hid (HM1.out.grow hb)); (try replace HM2 := Lib.hid (HM2.out.grow hb)); (try replace HM3 := Lib.hid (HM3.out.grow hb)); (try replace HM4 := Lib.hid (HM4.out.grow hb)); (try clear hb); clear hI; have hI := hI'; clear hI'; (try simp only [List.cons_append, List.nil_append, List.set_cons_zero, List.set_cons_succ, List.setIfInBounds_toArray, Act.put, Act.eval, Array.getD_eq_getD_getElem?, List.getElem?_toArray, List.getElem?_cons_zero, List.getElem?_cons_succ, Option.getD_some] at hI); (try clear c0); (try clear c1); (try clear c2); (try clear c3); (try clear c4); (try clear c5); (try clear c6); (try clear c7); (try clear c8); (try clear c9); (try clear c10); (try clear c11); (try have c0 := hI.cell (i := 0) rfl); (try have c1 := hI.cell (i := 1) rfl); (try have c2 := hI.cell (i := 2) rfl); (try have c3 := hI.cell (i := 3) rfl); (try have c4 := hI.cell (i := 4) rfl); (try have c5 := hI.cell (i := 5) rfl); (try have c6 := hI.cell (i := 6) rfl); (try have c7 := hI.cell (i := 7) rfl); (try have c8 := hI.cell (i := 8) rfl); (try have c9 := hI.cell (i := 9) rfl); (try have c10 := hI.cell (i := 10) rfl); (try have c11 := hI.cell (i := 11) rfl); skip) | fail)
      go_returns
      exact ⟨rfl, hI.below⟩
    · have hd1 : decide (n < 10) = false := by simp; omega
      have ht : n.tdiv 10 = n / 10 := Int.tdiv_eq_ediv_of_nonneg h0
      have hm : n.tmod 10 = n % 10 := Int.tmod_eq_emod_of_nonneg h0
      have hw1 : wrap64 (n / 10) = n / 10 := by unfold wrap64; omega
      have hw2 : wrap64 (48 + n % 10) = 48 + n % 10 := by unfold wrap64; omega
      have e : str (Lib.decDigits (n / 10).toNat) ++ str [u8 (48 + n % 10)] = str (Lib.decDigits n.toNat) := by
        rw [str_app, u8_dig (d := n.toNat % 10) (by omega) (48 + n % 10) (by omega), dec_big (u := n.toNat) (by omega)]
        congr 3
        omega
      have z1 : (str (Lib.decDigits (n / 10).toNat)).size ≤ 20 := by rw [str_size, Lib.decDigits_length]; exact Lib.nDigits_le20 _ (by omega)
      have z2 : (str [u8 (48 + n % 10)]).size = 1 := str_size _
      have HD := Lib.hid (ih (n / 10) (by omega) (by omega) (by omega))
      have HC := Lib.hid (r_chr (48 + n % 10))
      have HE := Lib.hid e
      clear ih
      generalize str (Lib.decDigits (n / 10).toNat) = sd at *
      generalize str [u8 (48 + n % 10)] = sc at *
      go_enter Tryd.func28, Tryd.ntmps28
      go_wp2_with (first | (go_at_call 57; (with_reducible refine (HC.out _).mono ?_); intro e w' hr; obtain ⟨rfl, hb⟩ := hr; have hI' := hI.on hb; (try replace HM1 := Lib.hid (HM1.out.grow hb)); (try replace HM2 := Lib.hid (HM2.out.grow hb)); (try replace HM3 := Lib.hid (HM3.out.grow hb)); (try replace HM4 := Lib.hid (HM4.out.grow hb)); (try clear hb); clear hI; have hI := hI'; clear hI'; (try simp only [List.cons_append, List.nil_append, List.set_cons_zero, List.set_cons_succ, List.setIfInBounds_toArray, Act.put, Act.eval, Array.getD_eq_getD_getElem?, List.getElem?_toArray, List.getElem?_cons_zero, List.getElem?_cons_succ, Option.getD_some] at hI); (try clear c0); (try clear c1); (try clear c2); (try clear c3); (try clear c4); (try clear c5); (try clear c6); (try clear c7); (try clear c8); (try clear c9); (try clear c10); (try clear c11); (try have c0 := hI.cell (i := 0) rfl); (try have c1 := hI.cell (i := 1) rfl); (try have c2 := hI.cell (i := 2) rfl); (try have c3 := hI.cell (i := 3) rfl); (try have c4 := hI.cell (i := 4) rfl); (try have c5 := hI.cell (i := 5) rfl); (try have c6 := hI.cell (i := 6) rfl); (try have c7 := hI.cell (i := 7) rfl); (try have c8 := hI.cell (i := 8) rfl); (try have c9 := hI.cell (i := 9) rfl); (try have c10 := hI.cell (i := 10) rfl); (try have c11 := hI.cell (i := 11) rfl); skip) | (go_at_call 28; (with_reducible refine (HD.out _).mono ?_); intro e w' hr; obtain ⟨rfl, hb⟩ := hr; have hI' := hI.on hb; (try replace HM1 := Lib.hid (HM1.out.grow hb)); (try replace HM2 := Lib.hid (HM2.out.grow hb)); (try replace HM3 := Lib.hid (HM3.out.grow hb)); (try replace HM4 := Lib.hid (HM4.out.grow hb)); (try clear hb); clear hI; have hI := hI'; clear hI'; (try simp only [List.cons_append, List.nil_append, List.set_cons_zero, List.set_cons_succ, List.setIfInBounds_toArray, Act.put, Act.eval, Array.getD_eq_getD_getElem?, List.getElem?_toArray, List.getElem?_cons_zero, List.getElem?_cons_succ, Option.getD_some] at hI); (try clear c0); (try clear c1); (try clear c2); (try clear c3); (try clear c4); (try clear c5); (try clear c6); (try clear c7); (try clear c8); (try clear c9); (try clear c10); (try clear c11); (try have c0 := hI.cell (i := 0) rfl); (try have c1 := hI.cell (i := 1) rfl); (try have c2 := hI.cell (i := 2) rfl); (try have c3 := hI.cell (i := 3) rfl); (try have c4 := hI.cell (i := 4) rfl); (try have c5 := hI.cell (i := 5) rfl); (try have c6 := hI.cell (i := 6) rfl); (try have c7 := hI.cell (i := 7) rfl); (try have c8 := hI.cell (i := 8) rfl); (try have c9 := hI.cell (i := 9) rfl); (try have c10 := hI.cell (i := 10) rfl); (try have c11 := hI.cell (i := 11) rfl); skip) | fail)
      go_returns
      exact ⟨rfl, hI.below⟩
/-- the digits of m, none for none -/
def digs (m : Nat) : List UInt8 := if m = 0 then [] else Lib.decDigits m
theorem digs_next (m : Nat) (h : m ≠ 0) : digs m = digs (m / 10) ++ [UInt8.ofNat (48 + m % 10)] := by
  unfold digs
  rw [if_neg h]
  by_cases h10 : m < 10
  · rw [if_pos (by omega), dec_small h10]; congr 3; omega
  · rw [if_neg (by omega), dec_big h10]
theorem digs_len (m : Nat) (h : m < 18446744073709551616) : (digs m).length ≤ 20 := by
  unfold digs
  split
  · simp
  · rw [Lib.decDigits_length]; exact Lib.nDigits_le20 _ h
set_option maxHeartbeats 1000000 in
theorem r_Digits (n : Int) (hn : i64 n) (w : World) : Calls Tryd.prog 28 #[.int .i64 n] w (Ret (.string (str (Lib.itoa n))) w) := by
  unfold i64 at hn
  rcases Int.lt_or_le n 0 with hn0 | hn0
  · rw [itoa_neg' hn0]
    have hI := Inv.start w
    have hd0 : decide (n < 0) = true := by simp; omega
    have HN := Lib.hid hn
    go_enter Tryd.func28, Tryd.ntmps28
    go_wp2_with fail
    go_loopw [0, 3] (fun u v wr => ∃ (m : Int) (acc : List UInt8), u = .int .i64 m ∧ v = .string (str acc) ∧ n ≤ m ∧ m ≤ 0 ∧ digs n.natAbs = digs m.natAbs ++ acc ∧ Inv w [] wr) (fun u _ _ => (intOf u).natAbs)
    case atStart => exact ⟨n, [], rfl, rfl, by omega, by omega, by simp, hI⟩
    case round =>
      clear hI
      obtain ⟨m, acc, rfl, rfl, hm0, hm1, hd, hI⟩ := hrel
      have hal : acc.length ≤ 20 := by
        have h1 := digs_len n.natAbs (by omega)
        rw [hd, List.length_append] at h1
        omega
      have HD := Lib.hid hd
      clear hd
      rcases Int.lt_or_le m 0 with hm | hm
      · have hdm : decide (m < 0) = true := by simp; omega
        have ht : m.tdiv 10 = -(m.natAbs / 10 : Nat) := by
          have : m = -(m.natAbs : Int) := by omega
          rw [this, Int.neg_tdiv, Int.tdiv_eq_ediv_of_nonneg (by omega)]; omega
        have hr : m.tmod 10 = -(m.natAbs % 10 : Nat) := by
          have : m = -(m.natAbs : Int) := by omega
          rw [this, Int.neg_tmod, Int.tmod_eq_emod_of_nonneg (by omega)]; omega
        have e : str (chrL (48 - -(m.natAbs % 10 : Nat))) ++ str acc = str (UInt8.ofNat (48 + m.natAbs % 10) :: acc) := by
          rw [str_app, chrL_dig (d := m.natAbs % 10) (by omega) _ (by omega)]; rfl
        have hnx : digs n.natAbs = digs (m.natAbs / 10) ++ (UInt8.ofNat (48 + m.natAbs % 10) :: acc) := by
          rw [HD.out, digs_next m.natAbs (by omega)]; simp
        have z1 := chrL_len (48 - -(m.natAbs % 10 : Nat))
        have z2 : (str acc).size ≤ 20 := by rw [str_size]; exact hal
        have hw1 : wrap64 (m.tdiv 10) = m.tdiv 10 := by rw [ht]; unfold wrap64; omega
        have hw2 : wrap64 (48 - m.tmod 10) = 48 - m.tmod 10 := by rw [hr]; unfold wrap64; omega
        rw [← hr] at e z1
        have HC := Lib.hid (r_chrL (48 - m.tmod 10))
        have HE := Lib.hid e
        have HX := Lib.hid hnx
        have HT := Lib.hid ht
        clear ht hr e hnx
        generalize hsc : str (chrL (48 - m.tmod 10)) = sc at *
        clear hsc
        generalize hsa : str acc = sa at *
        clear hsa
        go_wp2_with (first | (go_at_call 57; (with_reducible refine (HC.out _).mono ?_); intro e w' hr; obtain ⟨rfl, hb⟩ := hr; have hI' := hI.on hb; (try replace HM1 := Lib.hid (HM1.out.grow hb)); (try replace HM2 := Lib.hid (HM2.out.grow hb)); (try replace HM3 := Lib.hid (HM3.out.grow hb)); (try replace HM4 := Lib.hid (HM4.out.grow hb)); (try clear hb); clear hI; have hI := hI'; clear hI'; (try simp only [List.cons_append, List.nil_append, List.set_cons_zero, List.set_cons_succ, List.setIfInBounds_toArray, Act.put, Act.eval, Array.getD_eq_getD_getElem?, List.getElem?_toArray, List.getElem?_cons_zero, List.getElem?_cons_succ, Option.getD_some] at hI); (try clear c0); (try clear c1); (try clear c2); (try clear c3); (try clear c4); (try clear c5); (try clear c6); (try clear c7); (try clear c8); (try clear c9); (try clear c10); (try clear c11); (try have c0 := hI.cell (i := 0) rfl); (try have c1 := hI.cell (i := 1) rfl); (try have c2 := hI.cell (i := 2) rfl); (try have c3 := hI.cell (i := 3) rfl); (try have c4 := hI.cell (i := 4) rfl); (try have c5 := hI.cell (i := 5) rfl); (try have c6 := hI.cell (i := 6) rfl); (try have c7 := hI.cell (i := 7) rfl); (try have c8 := hI.cell (i := 8) rfl); (try have c9 := hI.cell (i := 9) rfl); (try have c10 := hI.cell (i := 10) rfl); (try have c11 := hI.cell (i := 11) rfl); skip) | fail)
        go_roundw
        case rel => exact ⟨m.tdiv 10, _, rfl, by rw [HE.out], by rw [HT.out]; omega, by rw [HT.out]; omega, by rw [HX.out, HT.out]; congr 2; omega, hI⟩
        case measure => simp only [intOf]; rw [HT.out]; omega
      · obtain rfl : m = 0 := by omega
        have e : str [45] ++ str acc = str (45 :: Lib.decDigits n.natAbs) := by
          have h1 := HD.out
          unfold digs at h1
          rw [if_neg (by omega)] at h1
          rw [str_app, h1]; rfl
        have HE := Lib.hid e
        have z2 : (str acc).size ≤ 20 := by rw [str_size]; exact hal
        clear e
        generalize hsa : str acc = sa at *
        clear hsa
        go_wp2_with fail
        go_returns
        exact ⟨by rw [← HE.out]; rfl, hI.below⟩
  · rw [itoa_pos hn0]
    exact r_Digits_pos n.toNat n hn0 (Nat.le_refl _) hn.2 w
end Go.Proofs.YtbkjhdohkdeniaaDoor
