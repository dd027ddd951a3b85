/- What the parts say: What the program and the reference ask of a line, and what plain data says of it: alike. Conditions: none. -/
import Derived.Test.YtbkjhdohkdeniaaGreatDoorP17
import Derived.Lib.LastIndexByte
set_option linter.unusedVariables false
set_option linter.unusedSimpArgs false
namespace Go.Proofs.YtbkjhdohkdeniaaGreatDoor
open Go.RowKit
set_option maxRecDepth 100000
theorem isNum_iff {n : Int} : isNum n = true ↔ -2147483648 ≤ n ∧ n ≤ 2147483647 := by unfold isNum; exact inR_iff
theorem word_num (r : List UInt8) : numOk r (-2147483648) 2147483647 = isWordN r ∧ (isWordN r = true → numV r = atoiN r) := by
  by_cases h : ∃ n, Lib.itoa n = r ∧ isNum n = true
  · obtain ⟨n, rfl, hn⟩ := h
    have hb := isNum_iff.1 hn
    obtain ⟨hv, ho⟩ := num_itoa (n := n) (low := -2147483648) (high := 2147483647) (by omega) (by omega)
    have ha := atoiN_itoa (n := n) (by unfold i64; omega)
    have hw : isWordN (Lib.itoa n) = true := by unfold isWordN; rw [ha, hn]; simp
    rw [hw, ho, hv, ha]
    exact ⟨by simp; omega, fun _ => rfl⟩
  · have hw : isWordN r = false := by
      cases hc : isWordN r
      · rfl
      · unfold isWordN at hc
        rw [Bool.and_eq_true, decide_eq_true_eq] at hc
        exact absurd ⟨_, hc.1, hc.2⟩ h
    rw [hw]
    refine ⟨?_, fun h => by cases h⟩
    cases hc : numOk r (-2147483648) 2147483647
    · rfl
    · have := numOk_itoa hc
      exact absurd ⟨_, this.1, isNum_iff.2 this.2⟩ h
theorem isWordN_ok {r : List UInt8} (h : isWordN r = true) : ∃ m, Lib.atoiAll r = .ok m := by
  unfold isWordN at h
  rw [Bool.and_eq_true, decide_eq_true_eq] at h
  have hb := isNum_iff.1 h.2
  exact ⟨atoiN r, by conv => lhs; rw [← h.1]
                     exact atoi_itoa _ (by unfold i64; omega)⟩
theorem split_last {c : UInt8} {a b : List UInt8} (hb : c ∉ b) : splitL c (a ++ c :: b) = splitL c a ++ [b] := by
  induction a with
  | nil => simp only [List.nil_append, splitL, if_true]; rw [splitL_word hb]; rfl
  | cons x a ih =>
    obtain ⟨h, t, e⟩ := splitL_ne c a
    rw [List.cons_append]
    simp only [splitL]
    rw [ih, e]
    split
    · rfl
    · rfl
theorem join_last (c : UInt8) (a b : List UInt8) : Lib.join (splitL c a ++ [b]) [c] = a ++ c :: b := by
  induction a with
  | nil => show Lib.join ([[]] ++ [b]) [c] = _; rw [List.singleton_append, join_two, Lib.join_one]; rfl
  | cons x a ih =>
    obtain ⟨h, t, e⟩ := splitL_ne c a
    simp only [splitL]
    rw [e] at ih ⊢
    split
    · rename_i hx
      subst hx
      rw [List.cons_append, List.cons_append, join_two, ← List.cons_append, ih]
      simp
    · cases t with
      | nil => rw [List.singleton_append, join_two] at ih ⊢; rw [List.cons_append, ih]; rfl
      | cons y t => rw [List.cons_append, List.cons_append, join_two] at ih ⊢; rw [List.cons_append, ih]; rfl
theorem getLastD_snoc (l : List (List UInt8)) (b d : List UInt8) : (l ++ [b]).getLastD d = b := by
  rw [List.getLastD_eq_getLast?, List.getLast?_concat]; rfl
theorem splitL_pos (c : UInt8) (l : List UInt8) : 1 ≤ (splitL c l).length := by obtain ⟨h, t, e⟩ := splitL_ne c l; rw [e]; simp
theorem hole_last {a b : List UInt8} (hb : (32 : UInt8) ∉ b) : isHole (splitL 32 (a ++ 32 :: b)) = (nameB b && (decide ((parseF (a ++ [32, 48])).2 = 0) && (decide ((parseF (a ++ [32, 48])).1.op = 8) || decide ((parseF (a ++ [32, 48])).1.op = 9)))) ∧ jumpW (splitL 32 (a ++ 32 :: b)) = parseF (a ++ [32, 48]) ∧ (splitL 32 (a ++ 32 :: b)).getLastD [] = b := by
  have hp := splitL_pos 32 a
  have hj : jumpW (splitL 32 (a ++ 32 :: b)) = parseF (a ++ [32, 48]) := by
    unfold jumpW
    rw [split_last hb, List.dropLast_concat]
    show parseF (Lib.join (splitL 32 a ++ [zeroT]) [32]) = _
    rw [join_last]; rfl
  have hl : (splitL 32 (a ++ 32 :: b)).getLastD [] = b := by rw [split_last hb, getLastD_snoc]
  refine ⟨?_, hj, hl⟩
  unfold isHole
  rw [hj, hl, split_last hb, List.length_append]
  rw [decide_eq_true (by simp; omega)]
  rfl
theorem hole_none {s : List UInt8} (h : (32 : UInt8) ∉ s) : isHole (splitL 32 s) = false := by
  unfold isHole
  rw [splitL_word h]
  rfl
theorem parse_word {l : List UInt8} (ws : List (List UInt8)) (h : splitL 32 l = [119, 111, 114, 100] :: ws) : parseF l = (instZ, 3) := by
  refine parseF_no fun i hi => ?_
  have := guess_text hi
  rw [h] at this
  have h2 := (instOk_op hi.1).1
  rw [← this] at h2
  have : opL [119, 111, 114, 100] = -1 := by decide
  unfold guess at h2
  simp only [List.getD_cons_zero, this] at h2
  omega
theorem word_split {s : List UInt8} (h : wordP.isPrefixOf s = true) : ∃ r, s = wordP ++ r ∧ splitL 32 s = [119, 111, 114, 100] :: splitL 32 r := by
  obtain ⟨r, rfl⟩ := List.isPrefixOf_iff_prefix.1 h
  refine ⟨r, rfl, ?_⟩
  show splitL 32 ([119, 111, 114, 100] ++ 32 :: r) = _
  exact splitL_app r (by decide)
theorem hole_word {s : List UInt8} (h : wordP.isPrefixOf s = true) : isHole (splitL 32 s) = false := by
  obtain ⟨r, rfl, hs⟩ := word_split h
  unfold isHole
  have : (jumpW (splitL 32 (wordP ++ r))).2 = 3 := by
    unfold jumpW
    rw [hs]
    obtain ⟨x, t, e⟩ := splitL_ne 32 r
    have hd : ([119, 111, 114, 100] :: splitL 32 r).dropLast ++ [zeroT] = [119, 111, 114, 100] :: ((splitL 32 r).dropLast ++ [zeroT]) := by rw [e]; rfl
    rw [hd]
    have : Lib.join ([119, 111, 114, 100] :: ((splitL 32 r).dropLast ++ [zeroT])) [32] = [119, 111, 114, 100] ++ 32 :: Lib.join ((splitL 32 r).dropLast ++ [zeroT]) [32] := by
      obtain ⟨y, u, hy⟩ : ∃ y u, (splitL 32 r).dropLast ++ [zeroT] = y :: u := by
        cases hdl : (splitL 32 r).dropLast with
        | nil => exact ⟨_, _, rfl⟩
        | cons a b => exact ⟨_, _, rfl⟩
      rw [hy, join_two]; rfl
    rw [this, parse_word _ (splitL_app _ (by decide))]
  rw [this]
  simp
theorem parse_wordP {s : List UInt8} (h : wordP.isPrefixOf s = true) : parseF s = (instZ, 3) := by
  obtain ⟨r, rfl, hs⟩ := word_split h
  exact parse_word _ hs
end Go.Proofs.YtbkjhdohkdeniaaGreatDoor
