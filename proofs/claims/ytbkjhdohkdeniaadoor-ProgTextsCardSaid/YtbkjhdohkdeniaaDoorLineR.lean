/- The contract of the reference's ProgText: the text of a program, as plain data tells it. Conditions: the library's variables hold what they were laid with. -/
import Derived.Test.YtbkjhdohkdeniaaDoorTextR
import Derived.Test.YtbkjhdohkdeniaaDoorLineC
namespace Go.Proofs.YtbkjhdohkdeniaaDoor
open Go.RowKit
set_option linter.unusedVariables false
set_option linter.unusedSimpArgs false
set_option maxRecDepth 100000
theorem join_snoc (b : UInt8) (y : List UInt8) : ∀ (x : List UInt8) (r : List (List UInt8)), Lib.join ((x :: r) ++ [y]) [b] = Lib.join (x :: r) [b] ++ (b :: y)
  | x, [] => by rw [List.singleton_append, join_two, Lib.join_one, Lib.join_one]; rfl
  | x, z :: r => by
    have ih := join_snoc b y z r
    rw [List.cons_append, List.cons_append, join_two, ← List.cons_append, ih, join_two]
    simp
theorem r_isNum (n : Int) (w : World) : Calls Tryd.prog 32 #[.int .i64 n] w fun e w' => e = .returned (.bool (isNum n)) ∧ w = w' := r_IsNumber n w
set_option maxHeartbeats 8000000 in
theorem r_ProgText (A : Option Addr) (c : Nat) (l : List Int) (w : World) (hE : EnvT w) (hn : l.length ≤ maxLen) (hl : ∀ (i : Nat) n, l[i]? = some n → i64 n) (hL : Lies encI 1 w w.heap.size A l) :
    Calls Tryd.prog 14 #[.slice A l.length c] w (Ret (.tuple #[.string (str (progT l).1), .int .i64 (progT l).2]) w) := by
  have hmx : l.length ≤ 9223372036854775807 := by unfold maxLen at hn; omega
  have hI := Inv.start w
  have HL := Lib.hid hL
  have HW := Lib.hid hl
  clear hn hL hl
  rcases Nat.lt_or_ge 150 l.length with hbig | hsm
  · rw [progT_large hbig]
    have hb1 : (150 : Int) < (l.length : Int) := by omega
    go_enter Tryd.func14, Tryd.ntmps14
    go_wp2_with fail
    go_returns
    exact ⟨rfl, hI.below⟩
  · have hb1 : decide ((150 : Int) < (l.length : Int)) = false := by simp; omega
    go_enter Tryd.func14, Tryd.ntmps14
    go_wp2_with fail
    go_loopw [4, 5, 6, 7, 8, 9, 15] (fun vs _ _ _ _ _ v wr => ∃ (k : Nat), v = .int .i64 k ∧ vs = .string (str (Lib.join ((l.take k).map lineT) [10])) ∧ k ≤ l.length ∧ (∀ (j : Nat) n, j < k → l[j]? = some n → isNum n = true) ∧ Inv w [] wr) (fun _ _ _ _ _ _ v _ => (l.length - intOf v).toNat)
    case atStart => exact ⟨0, rfl, rfl, by omega, fun j n hj => by omega, hI⟩
    case round =>
      clear hI
      obtain ⟨k, rfl, rfl, hk, hall, hI⟩ := hrel
      have HA := Lib.hid hall
      clear hall
      rcases Nat.lt_or_ge k l.length with hlt | hge
      · obtain ⟨b, o, n, rfl, hb, hp, q0⟩ := (hI.lies HL.out).cellsI hlt
        have hni : i64 n := HW.out k n hp
        have hso := lines_len (l := l.take k) (fun i n hi => by
          rw [List.getElem?_take] at hi
          split at hi
          · exact HW.out i n hi
          · cases hi) (by simp; omega) 10
        have hln := lineT_len hni
        have hnx : (l.take (k + 1)).map lineT = (l.take k).map lineT ++ [lineT n] := by rw [List.take_add_one, hp, List.map_append]; rfl
        have HP := Lib.hid hp
        clear hp
        cases hnum : isNum n
        · have HPT := Lib.hid (progT_bad hsm HP.out hnum)
          have HN := Lib.hid (fun w => hnum ▸ r_isNum n w)
          clear hnum
          go_wp2_with (first | (go_at_call 32; (with_reducible refine (HN.out _).mono ?_); rintro e w1 ⟨rfl, rfl⟩) | fail)
          go_returns
          exact ⟨by rw [HPT.out]; rfl, hI.below⟩
        · have HN := Lib.hid (fun w => hnum ▸ r_isNum n w)
          have H2 := Lib.hid (show ∀ (j : Nat) m, j < k + 1 → l[j]? = some m → isNum m = true from fun j m hj hm => by
            rcases Nat.lt_or_ge j k with h | h
            · exact HA.out j m h hm
            · obtain rfl : j = k := by omega
              rw [HP.out] at hm
              exact (Option.some.inj hm) ▸ hnum)
          have HI := Lib.hid (r_Digits n hni)
          have hz1 : ¬ 9223372036854775807 < 5 + (str (Lib.itoa n)).size := by rw [str_size]; have := itoa_len hni; omega
          have hws := word_str n
          clear hnum
          rcases Nat.eq_zero_or_pos k with hk0 | hk0
          · subst hk0
            simp only [Nat.zero_mul, Nat.add_zero] at q0
            have e1 : (⟨#[]⟩ : ByteArray) ++ str (lineT n) = str (Lib.join ((l.take (0 + 1)).map lineT) [10]) := by
              rw [hnx]
              show str [] ++ str (lineT n) = str (Lib.join [lineT n] [10])
              rw [str_app, Lib.join_one]; rfl
            have e0 : str (Lib.join ((l.take 0).map lineT) [10]) = ⟨#[]⟩ := rfl
            have HX := Lib.hid e1
            have h0 : ¬ 9223372036854775807 < 0 + (str (lineT n)).size := by rw [str_size]; omega
            rw [e0]
            clear hnx e1 e0 hso
            cases hok : instOk (unpackF n)
            · have HR := Lib.hid (fun w h => readF_no hok ▸ r_InstRead n w h hni)
              rw [lineT_no hok] at HX h0
              clear hok hni hln
              generalize str (wordP ++ Lib.itoa n) = sl at *
              go_wp2_with (first | (go_at_call 32; (with_reducible refine (HN.out _).mono ?_); rintro e w1 ⟨rfl, rfl⟩) | (go_at_call 28; (with_reducible refine (HI.out _).mono ?_); intro e w' hr; obtain ⟨rfl, hb⟩ := hr; have hI' := hI.on hb; (try replace HM1 := Lib.hid (HM1.out.grow hb)); (try replace HM2 := Lib.hid (HM2.out.grow hb)); (try replace HM3 := Lib.hid (HM3.out.grow hb)); (try replace HM4 := Lib.hid (HM4.out.grow hb)); (try clear hb); clear hI; have hI := hI'; clear hI'; (try simp only [List.cons_append, List.nil_append, List.set_cons_zero, List.set_cons_succ, List.setIfInBounds_toArray, Act.put, Act.eval, Array.getD_eq_getD_getElem?, List.getElem?_toArray, List.getElem?_cons_zero, List.getElem?_cons_succ, Option.getD_some] at hI); (try clear c0); (try clear c1); (try clear c2); (try clear c3); (try clear c4); (try clear c5); (try clear c6); (try clear c7); (try clear c8); (try clear c9); (try clear c10); (try clear c11); (try have c0 := hI.cell (i := 0) rfl); (try have c1 := hI.cell (i := 1) rfl); (try have c2 := hI.cell (i := 2) rfl); (try have c3 := hI.cell (i := 3) rfl); (try have c4 := hI.cell (i := 4) rfl); (try have c5 := hI.cell (i := 5) rfl); (try have c6 := hI.cell (i := 6) rfl); (try have c7 := hI.cell (i := 7) rfl); (try have c8 := hI.cell (i := 8) rfl); (try have c9 := hI.cell (i := 9) rfl); (try have c10 := hI.cell (i := 10) rfl); (try have c11 := hI.cell (i := 11) rfl); skip) | (go_at_call 33; (with_reducible refine (HR.out _ (hE.env.inv hI)).mono ?_); intro e w' hr; obtain ⟨rfl, hb⟩ := hr; have hI' := hI.on hb; (try replace HM1 := Lib.hid (HM1.out.grow hb)); (try replace HM2 := Lib.hid (HM2.out.grow hb)); (try replace HM3 := Lib.hid (HM3.out.grow hb)); (try replace HM4 := Lib.hid (HM4.out.grow hb)); (try clear hb); clear hI; have hI := hI'; clear hI'; (try simp only [List.cons_append, List.nil_append, List.set_cons_zero, List.set_cons_succ, List.setIfInBounds_toArray, Act.put, Act.eval, Array.getD_eq_getD_getElem?, List.getElem?_toArray, List.getElem?_cons_zero, List.getElem?_cons_succ, Option.getD_some] at hI); (try clear c0); (try clear c1); (try clear c2); (try clear c3); (try clear c4); (try clear c5); (try clear c6); (try clear c7); (try clear c8); (try clear c9); (try clear c10); (try clear c11); (try have c0 := hI.cell (i := 0) rfl); (try have c1 := hI.cell (i := 1) rfl); (try have c2 := hI.cell (i := 2) rfl); (try have c3 := hI.cell (i := 3) rfl); (try have c4 := hI.cell (i := 4) rfl); (try have c5 := hI.cell (i := 5) rfl); (try have c6 := hI.cell (i := 6) rfl); (try have c7 := hI.cell (i := 7) rfl); (try have c8 := hI.cell (i := 8) rfl); (try have c9 := hI.cell (i := 9) rfl); (try have c10 := hI.cell (i := 10) rfl); (try have c11 := hI.cell (i := 11) rfl); skip) | (refine listI_var rfl rfl 29 rfl _ _ rfl hI Tryd.zeroValue29 (fun _ => rfl) (fun _ => rfl) (by first | rfl | (simp only [hsz1]; first | done | rfl | kernel_rfl) | (simp only [hsz2]; first | done | rfl | kernel_rfl) | (simp only [hsz]; first | done | rfl | kernel_rfl) | kernel_rfl) (by first | exact info_mach (by assumption) | (simp only [hsz1]; kernel_rfl) | (simp only [hsz2]; kernel_rfl) | (simp only [hsz]; kernel_rfl) | kernel_rfl) (by first | (simp [Value.oneCell']; done) | exact HO1.out | exact HO2.out) fun gx w' hI' hb => ?_; (try replace HM1 := Lib.hid (HM1.out.grow hb)); (try replace HM2 := Lib.hid (HM2.out.grow hb)); (try replace HM3 := Lib.hid (HM3.out.grow hb)); (try replace HM4 := Lib.hid (HM4.out.grow hb)); (try clear hb); clear hI; have hI := hI'; clear hI'; (try simp only [List.cons_append, List.nil_append, List.set_cons_zero, List.set_cons_succ, List.setIfInBounds_toArray, Act.put, Act.eval, Array.getD_eq_getD_getElem?, List.getElem?_toArray, List.getElem?_cons_zero, List.getElem?_cons_succ, Option.getD_some] at hI); (try clear c0); (try clear c1); (try clear c2); (try clear c3); (try clear c4); (try clear c5); (try clear c6); (try clear c7); (try clear c8); (try clear c9); (try clear c10); (try clear c11); (try have c0 := hI.cell (i := 0) rfl); (try have c1 := hI.cell (i := 1) rfl); (try have c2 := hI.cell (i := 2) rfl); (try have c3 := hI.cell (i := 3) rfl); (try have c4 := hI.cell (i := 4) rfl); (try have c5 := hI.cell (i := 5) rfl); (try have c6 := hI.cell (i := 6) rfl); (try have c7 := hI.cell (i := 7) rfl); (try have c8 := hI.cell (i := 8) rfl); (try have c9 := hI.cell (i := 9) rfl); (try have c10 := hI.cell (i := 10) rfl); (try have c11 := hI.cell (i := 11) rfl); skip) | fail)
              go_roundw
              case rel => exact ⟨0 + 1, by go_num, by rw [← HX.out], by omega, H2.out, hI.first [] [_] rfl⟩
              case measure => simp [intOf]; omega
            · have HR := Lib.hid (fun w h => readF_ok hok ▸ r_InstRead n w h hni)
              have HT := Lib.hid (fun w h => textF_ok hok ▸ r_InstText (unpackF n) w h)
              rw [lineT_ok hok] at HX h0
              clear hok hni hln
              generalize unpackF n = i at *
              dsimp only at HT
              generalize str (instText i) = sl at *
              go_wp2_with (first | (go_at_call 32; (with_reducible refine (HN.out _).mono ?_); rintro e w1 ⟨rfl, rfl⟩) | (go_at_call 28; (with_reducible refine (HI.out _).mono ?_); intro e w' hr; obtain ⟨rfl, hb⟩ := hr; have hI' := hI.on hb; (try replace HM1 := Lib.hid (HM1.out.grow hb)); (try replace HM2 := Lib.hid (HM2.out.grow hb)); (try replace HM3 := Lib.hid (HM3.out.grow hb)); (try replace HM4 := Lib.hid (HM4.out.grow hb)); (try clear hb); clear hI; have hI := hI'; clear hI'; (try simp only [List.cons_append, List.nil_append, List.set_cons_zero, List.set_cons_succ, List.setIfInBounds_toArray, Act.put, Act.eval, Array.getD_eq_getD_getElem?, List.getElem?_toArray, List.getElem?_cons_zero, List.getElem?_cons_succ, Option.getD_some] at hI); (try clear c0); (try clear c1); (try clear c2); (try clear c3); (try clear c4); (try clear c5); (try clear c6); (try clear c7); (try clear c8); (try clear c9); (try clear c10); (try clear c11); (try have c0 := hI.cell (i := 0) rfl); (try have c1 := hI.cell (i := 1) rfl); (try have c2 := hI.cell (i := 2) rfl); (try have c3 := hI.cell (i := 3) rfl); (try have c4 := hI.cell (i := 4) rfl); (try have c5 := hI.cell (i := 5) rfl); (try have c6 := hI.cell (i := 6) rfl); (try have c7 := hI.cell (i := 7) rfl); (try have c8 := hI.cell (i := 8) rfl); (try have c9 := hI.cell (i := 9) rfl); (try have c10 := hI.cell (i := 10) rfl); (try have c11 := hI.cell (i := 11) rfl); skip) | (go_at_call 33; (with_reducible refine (HR.out _ (hE.env.inv hI)).mono ?_); intro e w' hr; obtain ⟨rfl, hb⟩ := hr; have hI' := hI.on hb; (try replace HM1 := Lib.hid (HM1.out.grow hb)); (try replace HM2 := Lib.hid (HM2.out.grow hb)); (try replace HM3 := Lib.hid (HM3.out.grow hb)); (try replace HM4 := Lib.hid (HM4.out.grow hb)); (try clear hb); clear hI; have hI := hI'; clear hI'; (try simp only [List.cons_append, List.nil_append, List.set_cons_zero, List.set_cons_succ, List.setIfInBounds_toArray, Act.put, Act.eval, Array.getD_eq_getD_getElem?, List.getElem?_toArray, List.getElem?_cons_zero, List.getElem?_cons_succ, Option.getD_some] at hI); (try clear c0); (try clear c1); (try clear c2); (try clear c3); (try clear c4); (try clear c5); (try clear c6); (try clear c7); (try clear c8); (try clear c9); (try clear c10); (try clear c11); (try have c0 := hI.cell (i := 0) rfl); (try have c1 := hI.cell (i := 1) rfl); (try have c2 := hI.cell (i := 2) rfl); (try have c3 := hI.cell (i := 3) rfl); (try have c4 := hI.cell (i := 4) rfl); (try have c5 := hI.cell (i := 5) rfl); (try have c6 := hI.cell (i := 6) rfl); (try have c7 := hI.cell (i := 7) rfl); (try have c8 := hI.cell (i := 8) rfl); (try have c9 := hI.cell (i := 9) rfl); (try have c10 := hI.cell (i := 10) rfl); (try have c11 := hI.cell (i := 11) rfl); skip) | (go_at_call 12; (with_reducible refine (HT.out _ (hE.env.inv hI)).mono ?_); intro e w' hr; obtain ⟨rfl, hb⟩ := hr; have hI' := hI.on hb; (try replace HM1 := Lib.hid (HM1.out.grow hb)); (try replace HM2 := Lib.hid (HM2.out.grow hb)); (try replace HM3 := Lib.hid (HM3.out.grow hb)); (try replace HM4 := Lib.hid (HM4.out.grow hb)); (try clear hb); clear hI; have hI := hI'; clear hI'; (try simp only [List.cons_append, List.nil_append, List.set_cons_zero, List.set_cons_succ, List.setIfInBounds_toArray, Act.put, Act.eval, Array.getD_eq_getD_getElem?, List.getElem?_toArray, List.getElem?_cons_zero, List.getElem?_cons_succ, Option.getD_some] at hI); (try clear c0); (try clear c1); (try clear c2); (try clear c3); (try clear c4); (try clear c5); (try clear c6); (try clear c7); (try clear c8); (try clear c9); (try clear c10); (try clear c11); (try have c0 := hI.cell (i := 0) rfl); (try have c1 := hI.cell (i := 1) rfl); (try have c2 := hI.cell (i := 2) rfl); (try have c3 := hI.cell (i := 3) rfl); (try have c4 := hI.cell (i := 4) rfl); (try have c5 := hI.cell (i := 5) rfl); (try have c6 := hI.cell (i := 6) rfl); (try have c7 := hI.cell (i := 7) rfl); (try have c8 := hI.cell (i := 8) rfl); (try have c9 := hI.cell (i := 9) rfl); (try have c10 := hI.cell (i := 10) rfl); (try have c11 := hI.cell (i := 11) rfl); skip) | (refine listI_var rfl rfl 29 rfl _ _ rfl hI Tryd.zeroValue29 (fun _ => rfl) (fun _ => rfl) (by first | rfl | (simp only [hsz1]; first | done | rfl | kernel_rfl) | (simp only [hsz2]; first | done | rfl | kernel_rfl) | (simp only [hsz]; first | done | rfl | kernel_rfl) | kernel_rfl) (by first | exact info_mach (by assumption) | (simp only [hsz1]; kernel_rfl) | (simp only [hsz2]; kernel_rfl) | (simp only [hsz]; kernel_rfl) | kernel_rfl) (by first | (simp [Value.oneCell']; done) | exact HO1.out | exact HO2.out) fun gx w' hI' hb => ?_; (try replace HM1 := Lib.hid (HM1.out.grow hb)); (try replace HM2 := Lib.hid (HM2.out.grow hb)); (try replace HM3 := Lib.hid (HM3.out.grow hb)); (try replace HM4 := Lib.hid (HM4.out.grow hb)); (try clear hb); clear hI; have hI := hI'; clear hI'; (try simp only [List.cons_append, List.nil_append, List.set_cons_zero, List.set_cons_succ, List.setIfInBounds_toArray, Act.put, Act.eval, Array.getD_eq_getD_getElem?, List.getElem?_toArray, List.getElem?_cons_zero, List.getElem?_cons_succ, Option.getD_some] at hI); (try clear c0); (try clear c1); (try clear c2); (try clear c3); (try clear c4); (try clear c5); (try clear c6); (try clear c7); (try clear c8); (try clear c9); (try clear c10); (try clear c11); (try have c0 := hI.cell (i := 0) rfl); (try have c1 := hI.cell (i := 1) rfl); (try have c2 := hI.cell (i := 2) rfl); (try have c3 := hI.cell (i := 3) rfl); (try have c4 := hI.cell (i := 4) rfl); (try have c5 := hI.cell (i := 5) rfl); (try have c6 := hI.cell (i := 6) rfl); (try have c7 := hI.cell (i := 7) rfl); (try have c8 := hI.cell (i := 8) rfl); (try have c9 := hI.cell (i := 9) rfl); (try have c10 := hI.cell (i := 10) rfl); (try have c11 := hI.cell (i := 11) rfl); skip) | fail)
              go_roundw
              case rel => exact ⟨0 + 1, by go_num, by rw [← HX.out], by omega, H2.out, hI.first [] [_] rfl⟩
              case measure => simp [intOf]; omega
          · have hkp : decide ((0 : Int) < (k : Int)) = true := by simp; omega
            have e1 : (str (Lib.join ((l.take k).map lineT) [10]) ++ (⟨#[10]⟩ : ByteArray)) ++ str (lineT n) = str (Lib.join ((l.take (k + 1)).map lineT) [10]) := by
              rw [hnx]
              have hne : (l.take k).map lineT ≠ [] := by
                intro h
                have := congrArg List.length h
                rw [List.length_map, List.length_take, List.length_nil] at this
                omega
              obtain ⟨x, r, hxr⟩ := List.exists_cons_of_ne_nil hne
              rw [hxr, join_snoc]
              show (str _ ++ str [10]) ++ str (lineT n) = _
              rw [str_app, str_app]
              simp
            have HX := Lib.hid e1
            have h0 : ¬ 9223372036854775807 < (str (Lib.join ((l.take k).map lineT) [10])).size + 1 := by rw [str_size]; omega
            have h1 : ¬ 9223372036854775807 < (str (Lib.join ((l.take k).map lineT) [10])).size + 1 + (str (lineT n)).size := by rw [str_size, str_size]; omega
            clear hnx e1 hso
            generalize str (Lib.join ((l.take k).map lineT) [10]) = so at *
            cases hok : instOk (unpackF n)
            · have HR := Lib.hid (fun w h => readF_no hok ▸ r_InstRead n w h hni)
              rw [lineT_no hok] at HX h1
              clear hok hni hln
              generalize str (wordP ++ Lib.itoa n) = sl at *
              go_wp2_with (first | (go_at_call 32; (with_reducible refine (HN.out _).mono ?_); rintro e w1 ⟨rfl, rfl⟩) | (go_at_call 28; (with_reducible refine (HI.out _).mono ?_); intro e w' hr; obtain ⟨rfl, hb⟩ := hr; have hI' := hI.on hb; (try replace HM1 := Lib.hid (HM1.out.grow hb)); (try replace HM2 := Lib.hid (HM2.out.grow hb)); (try replace HM3 := Lib.hid (HM3.out.grow hb)); (try replace HM4 := Lib.hid (HM4.out.grow hb)); (try clear hb); clear hI; have hI := hI'; clear hI'; (try simp only [List.cons_append, List.nil_append, List.set_cons_zero, List.set_cons_succ, List.setIfInBounds_toArray, Act.put, Act.eval, Array.getD_eq_getD_getElem?, List.getElem?_toArray, List.getElem?_cons_zero, List.getElem?_cons_succ, Option.getD_some] at hI); (try clear c0); (try clear c1); (try clear c2); (try clear c3); (try clear c4); (try clear c5); (try clear c6); (try clear c7); (try clear c8); (try clear c9); (try clear c10); (try clear c11); (try have c0 := hI.cell (i := 0) rfl); (try have c1 := hI.cell (i := 1) rfl); (try have c2 := hI.cell (i := 2) rfl); (try have c3 := hI.cell (i := 3) rfl); (try have c4 := hI.cell (i := 4) rfl); (try have c5 := hI.cell (i := 5) rfl); (try have c6 := hI.cell (i := 6) rfl); (try have c7 := hI.cell (i := 7) rfl); (try have c8 := hI.cell (i := 8) rfl); (try have c9 := hI.cell (i := 9) rfl); (try have c10 := hI.cell (i := 10) rfl); (try have c11 := hI.cell (i := 11) rfl); skip) | (go_at_call 33; (with_reducible refine (HR.out _ (hE.env.inv hI)).mono ?_); intro e w' hr; obtain ⟨rfl, hb⟩ := hr; have hI' := hI.on hb; (try replace HM1 := Lib.hid (HM1.out.grow hb)); (try replace HM2 := Lib.hid (HM2.out.grow hb)); (try replace HM3 := Lib.hid (HM3.out.grow hb)); (try replace HM4 := Lib.hid (HM4.out.grow hb)); (try clear hb); clear hI; have hI := hI'; clear hI'; (try simp only [List.cons_append, List.nil_append, List.set_cons_zero, List.set_cons_succ, List.setIfInBounds_toArray, Act.put, Act.eval, Array.getD_eq_getD_getElem?, List.getElem?_toArray, List.getElem?_cons_zero, List.getElem?_cons_succ, Option.getD_some] at hI); (try clear c0); (try clear c1); (try clear c2); (try clear c3); (try clear c4); (try clear c5); (try clear c6); (try clear c7); (try clear c8); (try clear c9); (try clear c10); (try clear c11); (try have c0 := hI.cell (i := 0) rfl); (try have c1 := hI.cell (i := 1) rfl); (try have c2 := hI.cell (i := 2) rfl); (try have c3 := hI.cell (i := 3) rfl); (try have c4 := hI.cell (i := 4) rfl); (try have c5 := hI.cell (i := 5) rfl); (try have c6 := hI.cell (i := 6) rfl); (try have c7 := hI.cell (i := 7) rfl); (try have c8 := hI.cell (i := 8) rfl); (try have c9 := hI.cell (i := 9) rfl); (try have c10 := hI.cell (i := 10) rfl); (try have c11 := hI.cell (i := 11) rfl); skip) | (refine listI_var rfl rfl 29 rfl _ _ rfl hI Tryd.zeroValue29 (fun _ => rfl) (fun _ => rfl) (by first | rfl | (simp only [hsz1]; first | done | rfl | kernel_rfl) | (simp only [hsz2]; first | done | rfl | kernel_rfl) | (simp only [hsz]; first | done | rfl | kernel_rfl) | kernel_rfl) (by first | exact info_mach (by assumption) | (simp only [hsz1]; kernel_rfl) | (simp only [hsz2]; kernel_rfl) | (simp only [hsz]; kernel_rfl) | kernel_rfl) (by first | (simp [Value.oneCell']; done) | exact HO1.out | exact HO2.out) fun gx w' hI' hb => ?_; (try replace HM1 := Lib.hid (HM1.out.grow hb)); (try replace HM2 := Lib.hid (HM2.out.grow hb)); (try replace HM3 := Lib.hid (HM3.out.grow hb)); (try replace HM4 := Lib.hid (HM4.out.grow hb)); (try clear hb); clear hI; have hI := hI'; clear hI'; (try simp only [List.cons_append, List.nil_append, List.set_cons_zero, List.set_cons_succ, List.setIfInBounds_toArray, Act.put, Act.eval, Array.getD_eq_getD_getElem?, List.getElem?_toArray, List.getElem?_cons_zero, List.getElem?_cons_succ, Option.getD_some] at hI); (try clear c0); (try clear c1); (try clear c2); (try clear c3); (try clear c4); (try clear c5); (try clear c6); (try clear c7); (try clear c8); (try clear c9); (try clear c10); (try clear c11); (try have c0 := hI.cell (i := 0) rfl); (try have c1 := hI.cell (i := 1) rfl); (try have c2 := hI.cell (i := 2) rfl); (try have c3 := hI.cell (i := 3) rfl); (try have c4 := hI.cell (i := 4) rfl); (try have c5 := hI.cell (i := 5) rfl); (try have c6 := hI.cell (i := 6) rfl); (try have c7 := hI.cell (i := 7) rfl); (try have c8 := hI.cell (i := 8) rfl); (try have c9 := hI.cell (i := 9) rfl); (try have c10 := hI.cell (i := 10) rfl); (try have c11 := hI.cell (i := 11) rfl); skip) | fail)
              go_roundw
              case rel => exact ⟨k + 1, by go_num, by rw [← HX.out], by omega, H2.out, hI.first [] [_] rfl⟩
              case measure => simp [intOf]; omega
            · have HR := Lib.hid (fun w h => readF_ok hok ▸ r_InstRead n w h hni)
              have HT := Lib.hid (fun w h => textF_ok hok ▸ r_InstText (unpackF n) w h)
              rw [lineT_ok hok] at HX h1
              clear hok hni hln
              generalize unpackF n = i at *
              dsimp only at HT
              generalize str (instText i) = sl at *
              go_wp2_with (first | (go_at_call 32; (with_reducible refine (HN.out _).mono ?_); rintro e w1 ⟨rfl, rfl⟩) | (go_at_call 28; (with_reducible refine (HI.out _).mono ?_); intro e w' hr; obtain ⟨rfl, hb⟩ := hr; have hI' := hI.on hb; (try replace HM1 := Lib.hid (HM1.out.grow hb)); (try replace HM2 := Lib.hid (HM2.out.grow hb)); (try replace HM3 := Lib.hid (HM3.out.grow hb)); (try replace HM4 := Lib.hid (HM4.out.grow hb)); (try clear hb); clear hI; have hI := hI'; clear hI'; (try simp only [List.cons_append, List.nil_append, List.set_cons_zero, List.set_cons_succ, List.setIfInBounds_toArray, Act.put, Act.eval, Array.getD_eq_getD_getElem?, List.getElem?_toArray, List.getElem?_cons_zero, List.getElem?_cons_succ, Option.getD_some] at hI); (try clear c0); (try clear c1); (try clear c2); (try clear c3); (try clear c4); (try clear c5); (try clear c6); (try clear c7); (try clear c8); (try clear c9); (try clear c10); (try clear c11); (try have c0 := hI.cell (i := 0) rfl); (try have c1 := hI.cell (i := 1) rfl); (try have c2 := hI.cell (i := 2) rfl); (try have c3 := hI.cell (i := 3) rfl); (try have c4 := hI.cell (i := 4) rfl); (try have c5 := hI.cell (i := 5) rfl); (try have c6 := hI.cell (i := 6) rfl); (try have c7 := hI.cell (i := 7) rfl); (try have c8 := hI.cell (i := 8) rfl); (try have c9 := hI.cell (i := 9) rfl); (try have c10 := hI.cell (i := 10) rfl); (try have c11 := hI.cell (i := 11) rfl); skip) | (go_at_call 33; (with_reducible refine (HR.out _ (hE.env.inv hI)).mono ?_); intro e w' hr; obtain ⟨rfl, hb⟩ := hr; have hI' := hI.on hb; (try replace HM1 := Lib.hid (HM1.out.grow hb)); (try replace HM2 := Lib.hid (HM2.out.grow hb)); (try replace HM3 := Lib.hid (HM3.out.grow hb)); (try replace HM4 := Lib.hid (HM4.out.grow hb)); (try clear hb); clear hI; have hI := hI'; clear hI'; (try simp only [List.cons_append, List.nil_append, List.set_cons_zero, List.set_cons_succ, List.setIfInBounds_toArray, Act.put, Act.eval, Array.getD_eq_getD_getElem?, List.getElem?_toArray, List.getElem?_cons_zero, List.getElem?_cons_succ, Option.getD_some] at hI); (try clear c0); (try clear c1); (try clear c2); (try clear c3); (try clear c4); (try clear c5); (try clear c6); (try clear c7); (try clear c8); (try clear c9); (try clear c10); (try clear c11); (try have c0 := hI.cell (i := 0) rfl); (try have c1 := hI.cell (i := 1) rfl); (try have c2 := hI.cell (i := 2) rfl); (try have c3 := hI.cell (i := 3) rfl); (try have c4 := hI.cell (i := 4) rfl); (try have c5 := hI.cell (i := 5) rfl); (try have c6 := hI.cell (i := 6) rfl); (try have c7 := hI.cell (i := 7) rfl); (try have c8 := hI.cell (i := 8) rfl); (try have c9 := hI.cell (i := 9) rfl); (try have c10 := hI.cell (i := 10) rfl); (try have c11 := hI.cell (i := 11) rfl); skip) | (go_at_call 12; (with_reducible refine (HT.out _ (hE.env.inv hI)).mono ?_); intro e w' hr; obtain ⟨rfl, hb⟩ := hr; have hI' := hI.on hb; (try replace HM1 := Lib.hid (HM1.out.grow hb)); (try replace HM2 := Lib.hid (HM2.out.grow hb)); (try replace HM3 := Lib.hid (HM3.out.grow hb)); (try replace HM4 := Lib.hid (HM4.out.grow hb)); (try clear hb); clear hI; have hI := hI'; clear hI'; (try simp only [List.cons_append, List.nil_append, List.set_cons_zero, List.set_cons_succ, List.setIfInBounds_toArray, Act.put, Act.eval, Array.getD_eq_getD_getElem?, List.getElem?_toArray, List.getElem?_cons_zero, List.getElem?_cons_succ, Option.getD_some] at hI); (try clear c0); (try clear c1); (try clear c2); (try clear c3); (try clear c4); (try clear c5); (try clear c6); (try clear c7); (try clear c8); (try clear c9); (try clear c10); (try clear c11); (try have c0 := hI.cell (i := 0) rfl); (try have c1 := hI.cell (i := 1) rfl); (try have c2 := hI.cell (i := 2) rfl); (try have c3 := hI.cell (i := 3) rfl); (try have c4 := hI.cell (i := 4) rfl); (try have c5 := hI.cell (i := 5) rfl); (try have c6 := hI.cell (i := 6) rfl); (try have c7 := hI.cell (i := 7) rfl); (try have c8 := hI.cell (i := 8) rfl); (try have c9 := hI.cell (i := 9) rfl); (try have c10 := hI.cell (i := 10) rfl); (try have c11 := hI.cell (i := 11) rfl); skip) | (refine listI_var rfl rfl 29 rfl _ _ rfl hI Tryd.zeroValue29 (fun _ => rfl) (fun _ => rfl) (by first | rfl | (simp only [hsz1]; first | done | rfl | kernel_rfl) | (simp only [hsz2]; first | done | rfl | kernel_rfl) | (simp only [hsz]; first | done | rfl | kernel_rfl) | kernel_rfl) (by first | exact info_mach (by assumption) | (simp only [hsz1]; kernel_rfl) | (simp only [hsz2]; kernel_rfl) | (simp only [hsz]; kernel_rfl) | kernel_rfl) (by first | (simp [Value.oneCell']; done) | exact HO1.out | exact HO2.out) fun gx w' hI' hb => ?_; (try replace HM1 := Lib.hid (HM1.out.grow hb)); (try replace HM2 := Lib.hid (HM2.out.grow hb)); (try replace HM3 := Lib.hid (HM3.out.grow hb)); (try replace HM4 := Lib.hid (HM4.out.grow hb)); (try clear hb); clear hI; have hI := hI'; clear hI'; (try simp only [List.cons_append, List.nil_append, List.set_cons_zero, List.set_cons_succ, List.setIfInBounds_toArray, Act.put, Act.eval, Array.getD_eq_getD_getElem?, List.getElem?_toArray, List.getElem?_cons_zero, List.getElem?_cons_succ, Option.getD_some] at hI); (try clear c0); (try clear c1); (try clear c2); (try clear c3); (try clear c4); (try clear c5); (try clear c6); (try clear c7); (try clear c8); (try clear c9); (try clear c10); (try clear c11); (try have c0 := hI.cell (i := 0) rfl); (try have c1 := hI.cell (i := 1) rfl); (try have c2 := hI.cell (i := 2) rfl); (try have c3 := hI.cell (i := 3) rfl); (try have c4 := hI.cell (i := 4) rfl); (try have c5 := hI.cell (i := 5) rfl); (try have c6 := hI.cell (i := 6) rfl); (try have c7 := hI.cell (i := 7) rfl); (try have c8 := hI.cell (i := 8) rfl); (try have c9 := hI.cell (i := 9) rfl); (try have c10 := hI.cell (i := 10) rfl); (try have c11 := hI.cell (i := 11) rfl); skip) | fail)
              go_roundw
              case rel => exact ⟨k + 1, by go_num, by rw [← HX.out], by omega, H2.out, hI.first [] [_] rfl⟩
              case measure => simp [intOf]; omega
      · obtain rfl : k = l.length := by omega
        have hje : decide ((l.length : Int) < (l.length : Int)) = false := by simp
        have HPT := Lib.hid (progT_ok hsm (fun j n hj => HA.out j n (by have := (List.getElem?_eq_some_iff.1 hj).1; omega) hj))
        rw [List.take_length]
        go_wp2_with fail
        go_returns
        exact ⟨by rw [HPT.out]; rfl, hI.below⟩
end Go.Proofs.YtbkjhdohkdeniaaDoor
