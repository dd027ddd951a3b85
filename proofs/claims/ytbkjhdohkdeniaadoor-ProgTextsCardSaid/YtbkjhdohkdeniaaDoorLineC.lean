/- The contract of prog.Text: the text of a program, as plain data tells it. Conditions: Go's tables hold what they were laid with. -/
import Derived.Test.YtbkjhdohkdeniaaDoorTextC
import Derived.Test.YtbkjhdohkdeniaaDoorJoinL
import Derived.Test.YtbkjhdohkdeniaaDoorLineM
namespace Go.Proofs.YtbkjhdohkdeniaaDoor
open Go.RowKit
set_option linter.unusedVariables false
set_option linter.unusedSimpArgs false
set_option maxRecDepth 100000
theorem c_isNumber (n : Int) (w : World) : Calls Tryd.prog 30 #[.int .i64 n] w fun e w' => e = .returned (.bool (isNum n)) ∧ w = w' := by
  go_enter Tryd.func30, Tryd.ntmps30
  go_wp2
  all_goals
    go_ret
    exact ⟨ebool (by rw [Bool.eq_iff_iff]; simp [isNum, inR] <;> omega), rfl⟩
theorem lineT_ok {n : Int} (h : instOk (unpackF n) = true) : lineT n = instText (unpackF n) := by unfold lineT; rw [if_pos h]
theorem lineT_no {n : Int} (h : instOk (unpackF n) = false) : lineT n = wordP ++ Lib.itoa n := by unfold lineT; rw [if_neg (by rw [h]; decide)]
theorem readF_ok {n : Int} (h : instOk (unpackF n) = true) : readF n = (unpackF n, 0) := by unfold readF; rw [if_pos h]
theorem readF_no {n : Int} (h : instOk (unpackF n) = false) : readF n = (instZ, 5) := by unfold readF; rw [if_neg (by rw [h]; decide)]
theorem text_len {i : Inst} (h : instOk i = true) : (instText i).length ≤ 200 := by
  have hop := instOk_op h
  obtain ⟨ho, ha, hb', hc'⟩ := instOk_in h
  have ia := small64 (n := i.a) (by omega) (by omega)
  have ib := small64 (n := i.b) (by omega) (by omega)
  have ic := small64 (n := i.c) (by omega) (by omega)
  have h1 := word_len hop.1 hop.2
  have e := text_eq i (wordOf i.op).data.toList (shapeN i.op)
  unfold instText instWords
  rw [e]
  simp only [List.length_append]
  have := addT_len ia (shapeN i.op).1 true
  have := addT_len ib (shapeN i.op).2.1 true
  have := addT_len ic (decide ((shapeN i.op).2.2 ≠ 0)) (decide ((shapeN i.op).2.2 = 2))
  omega
theorem lineT_len {n : Int} (h : i64 n) : (lineT n).length ≤ 200 := by
  cases hok : instOk (unpackF n)
  · rw [lineT_no hok, List.length_append]
    have := itoa_len h
    have h5 : wordP.length = 5 := rfl
    omega
  · rw [lineT_ok hok]; exact text_len hok
theorem join_bound (b : UInt8) : ∀ (ls : List (List UInt8)), (∀ x ∈ ls, x.length ≤ 200) → (Lib.join ls [b]).length ≤ 201 * ls.length
  | [], _ => by simp [Lib.join_nil]
  | [x], h => by rw [Lib.join_one]; have := h x (by simp); simp; omega
  | x :: y :: r, h => by
    rw [join_two]
    have h1 := h x (by simp)
    have h2 := join_bound b (y :: r) fun z hz => h z (List.mem_cons_of_mem _ hz)
    simp only [List.length_append, List.length_cons, List.length_nil] at h2 ⊢
    omega
theorem lines_len {l : List Int} (hl : ∀ (i : Nat) n, l[i]? = some n → i64 n) (hn : l.length ≤ 150) (b : UInt8) : (Lib.join (l.map lineT) [b]).length ≤ 1000000 := by
  have := join_bound b (l.map lineT) fun x hx => by
    obtain ⟨n, hn, rfl⟩ := List.mem_map.1 hx
    obtain ⟨i, hi⟩ := List.getElem?_of_mem hn
    exact lineT_len (hl i n hi)
  rw [List.length_map] at this
  omega
theorem word_str (n : Int) : (⟨#[119, 111, 114, 100, 32]⟩ : ByteArray) ++ str (Lib.itoa n) = str (wordP ++ Lib.itoa n) := by
  show str wordP ++ str (Lib.itoa n) = _
  rw [str_app]
theorem progT_large {l : List Int} (h : 150 < l.length) : progT l = ([], 2) := by unfold progT; rw [if_pos h]
theorem progT_bad {l : List Int} (h : l.length ≤ 150) {k : Nat} {n : Int} (hk : l[k]? = some n) (hn : isNum n = false) : progT l = ([], 1) := by
  unfold progT
  rw [if_neg (by omega), if_neg]
  intro ha
  rw [List.all_eq_true.1 ha n (List.mem_of_getElem? hk)] at hn
  cases hn
theorem progT_ok {l : List Int} (h : l.length ≤ 150) (ha : ∀ (k : Nat) n, l[k]? = some n → isNum n = true) : progT l = (Lib.join (l.map lineT) [10], 0) := by
  unfold progT
  rw [if_neg (by omega), if_pos]
  exact List.all_eq_true.2 fun n hn => by
    obtain ⟨k, hk⟩ := List.getElem?_of_mem hn
    exact ha k n hk
set_option maxHeartbeats 8000000 in
theorem c_prog_Text (A : Option Addr) (c : Nat) (l : List Int) (w : World) (hE : EnvT w) (hn : l.length ≤ maxLen) (hl : ∀ (i : Nat) n, l[i]? = some n → i64 n) (hL : Lies encI 1 w w.heap.size A l) :
    Calls Tryd.prog 13 #[.slice A l.length c] w (Ret (.tuple #[.string (str (progT l).1), .int .i64 (progT l).2]) w) := by
  have hmx : l.length ≤ 9223372036854775807 := by unfold maxLen at hn; omega
  have hI := Inv.start w
  have HL := Lib.hid hL
  have HW := Lib.hid hl
  clear hn hL hl
  rcases Nat.lt_or_ge 150 l.length with hbig | hsm
  · rw [progT_large hbig]
    have hb1 : (150 : Int) < (l.length : Int) := by omega
    go_enter Tryd.func13, Tryd.ntmps13
    go_wp2_with fail
    go_returns
    exact ⟨rfl, hI.below⟩
  · have hb1 : decide ((150 : Int) < (l.length : Int)) = false := by simp; omega
    go_enter Tryd.func13, Tryd.ntmps13
    replace hI := hI.nilrow 9 1
    simp only [List.nil_append] at hI
    go_wp2_with fail
    go_loopw [4, 6, 7, 8, 9, 15] (fun vs _ _ _ _ v wr => ∃ (k : Nat), v = .int .i64 k ∧ k ≤ l.length ∧ (∀ (j : Nat) n, j < k → l[j]? = some n → isNum n = true) ∧ Inv w [.row 9 1 vs ((l.take k).map lineT).length (((l.take k).map lineT).flatMap encT)] wr) (fun _ _ _ _ _ v _ => (l.length - intOf v).toNat)
    case atStart => exact ⟨0, rfl, by omega, fun j n hj => by omega, hI⟩
    case round =>
      clear hI
      obtain ⟨k, rfl, hk, hall, hI⟩ := hrel
      have HA := Lib.hid hall
      clear hall
      obtain ⟨ls, hls⟩ : ∃ ls, (l.take k).map lineT = ls := ⟨_, rfl⟩
      rw [hls] at hI
      have HLS := Lib.hid hls
      have HLN := Lib.hid (show ls.length ≤ 150 by rw [← hls]; simp; omega)
      clear hls
      obtain ⟨V, cv, hv⟩ := (hI.own0 (enc := encT) (xs := ls) (size := 1) (i := 0) rfl).form
      subst hv
      rcases Nat.lt_or_ge k l.length with hlt | hge
      · obtain ⟨b, o, n, rfl, hb, hp, q0⟩ := (hI.lies HL.out).cellsI hlt
        have hni : i64 n := HW.out k n hp
        have hnx : ls ++ [lineT n] = (l.take (k + 1)).map lineT := by rw [← HLS.out, List.take_add_one, hp, List.map_append]; rfl
        have HX := Lib.hid hnx
        have HP := Lib.hid hp
        clear hnx hp
        cases hnum : isNum n
        · rw [progT_bad hsm HP.out hnum]
          have HN := Lib.hid (fun w => hnum ▸ c_isNumber n w)
          clear hnum
          go_wp2_with (first | (go_at_call 30; (with_reducible refine (HN.out _).mono ?_); rintro e w1 ⟨rfl, rfl⟩) | fail)
          go_returns
          exact ⟨rfl, hI.below⟩
        · have HN := Lib.hid (fun w => hnum ▸ c_isNumber n w)
          have H2 := Lib.hid (show ∀ (j : Nat) m, j < k + 1 → l[j]? = some m → isNum m = true from fun j m hj hm => by
            rcases Nat.lt_or_ge j k with h | h
            · exact HA.out j m h hm
            · obtain rfl : j = k := by omega
              rw [HP.out] at hm
              exact (Option.some.inj hm) ▸ hnum)
          have HI := Lib.hid (c_Itoa n hni)
          have hz1 : ¬ 9223372036854775807 < 5 + (str (Lib.itoa n)).size := by rw [str_size]; have := itoa_len hni; omega
          have hws := word_str n
          clear hnum
          cases hok : instOk (unpackF n)
          · have HR := Lib.hid (fun w h => readF_no hok ▸ c_inst_Read n w h hni)
            rw [lineT_no hok] at HX
            clear hok hni
            go_wp2_with (first | (go_at_call 30; (with_reducible refine (HN.out _).mono ?_); rintro e w1 ⟨rfl, rfl⟩) | (go_at_call 24; (with_reducible refine (HI.out _ (hE.inv hI)).mono ?_); intro e w' hr; obtain ⟨rfl, hb⟩ := hr; have hI' := hI.on hb; (try replace HM1 := Lib.hid (HM1.out.grow hb)); (try replace HM2 := Lib.hid (HM2.out.grow hb)); (try replace HM3 := Lib.hid (HM3.out.grow hb)); (try replace HM4 := Lib.hid (HM4.out.grow hb)); (try clear hb); clear hI; have hI := hI'; clear hI'; (try simp only [List.cons_append, List.nil_append, List.set_cons_zero, List.set_cons_succ, List.setIfInBounds_toArray, Act.put, Act.eval, Array.getD_eq_getD_getElem?, List.getElem?_toArray, List.getElem?_cons_zero, List.getElem?_cons_succ, Option.getD_some] at hI); (try clear c0); (try clear c1); (try clear c2); (try clear c3); (try clear c4); (try clear c5); (try clear c6); (try clear c7); (try clear c8); (try clear c9); (try clear c10); (try clear c11); (try have c0 := hI.cell (i := 0) rfl); (try have c1 := hI.cell (i := 1) rfl); (try have c2 := hI.cell (i := 2) rfl); (try have c3 := hI.cell (i := 3) rfl); (try have c4 := hI.cell (i := 4) rfl); (try have c5 := hI.cell (i := 5) rfl); (try have c6 := hI.cell (i := 6) rfl); (try have c7 := hI.cell (i := 7) rfl); (try have c8 := hI.cell (i := 8) rfl); (try have c9 := hI.cell (i := 9) rfl); (try have c10 := hI.cell (i := 10) rfl); (try have c11 := hI.cell (i := 11) rfl); skip) | (go_at_call 31; (with_reducible refine (HR.out _ (hE.env.inv hI)).mono ?_); intro e w' hr; obtain ⟨rfl, hb⟩ := hr; have hI' := hI.on hb; (try replace HM1 := Lib.hid (HM1.out.grow hb)); (try replace HM2 := Lib.hid (HM2.out.grow hb)); (try replace HM3 := Lib.hid (HM3.out.grow hb)); (try replace HM4 := Lib.hid (HM4.out.grow hb)); (try clear hb); clear hI; have hI := hI'; clear hI'; (try simp only [List.cons_append, List.nil_append, List.set_cons_zero, List.set_cons_succ, List.setIfInBounds_toArray, Act.put, Act.eval, Array.getD_eq_getD_getElem?, List.getElem?_toArray, List.getElem?_cons_zero, List.getElem?_cons_succ, Option.getD_some] at hI); (try clear c0); (try clear c1); (try clear c2); (try clear c3); (try clear c4); (try clear c5); (try clear c6); (try clear c7); (try clear c8); (try clear c9); (try clear c10); (try clear c11); (try have c0 := hI.cell (i := 0) rfl); (try have c1 := hI.cell (i := 1) rfl); (try have c2 := hI.cell (i := 2) rfl); (try have c3 := hI.cell (i := 3) rfl); (try have c4 := hI.cell (i := 4) rfl); (try have c5 := hI.cell (i := 5) rfl); (try have c6 := hI.cell (i := 6) rfl); (try have c7 := hI.cell (i := 7) rfl); (try have c8 := hI.cell (i := 8) rfl); (try have c9 := hI.cell (i := 9) rfl); (try have c10 := hI.cell (i := 10) rfl); (try have c11 := hI.cell (i := 11) rfl); skip) | (refine listI_var rfl rfl 29 rfl _ _ rfl hI Tryd.zeroValue29 (fun _ => rfl) (fun _ => rfl) (by first | rfl | (simp only [hsz1]; first | done | rfl | kernel_rfl) | (simp only [hsz2]; first | done | rfl | kernel_rfl) | (simp only [hsz]; first | done | rfl | kernel_rfl) | kernel_rfl) (by first | exact info_mach (by assumption) | (simp only [hsz1]; kernel_rfl) | (simp only [hsz2]; kernel_rfl) | (simp only [hsz]; kernel_rfl) | kernel_rfl) (by first | (simp [Value.oneCell']; done) | exact HO1.out | exact HO2.out) fun gx w' hI' hb => ?_; (try replace HM1 := Lib.hid (HM1.out.grow hb)); (try replace HM2 := Lib.hid (HM2.out.grow hb)); (try replace HM3 := Lib.hid (HM3.out.grow hb)); (try replace HM4 := Lib.hid (HM4.out.grow hb)); (try clear hb); clear hI; have hI := hI'; clear hI'; (try simp only [List.cons_append, List.nil_append, List.set_cons_zero, List.set_cons_succ, List.setIfInBounds_toArray, Act.put, Act.eval, Array.getD_eq_getD_getElem?, List.getElem?_toArray, List.getElem?_cons_zero, List.getElem?_cons_succ, Option.getD_some] at hI); (try clear c0); (try clear c1); (try clear c2); (try clear c3); (try clear c4); (try clear c5); (try clear c6); (try clear c7); (try clear c8); (try clear c9); (try clear c10); (try clear c11); (try have c0 := hI.cell (i := 0) rfl); (try have c1 := hI.cell (i := 1) rfl); (try have c2 := hI.cell (i := 2) rfl); (try have c3 := hI.cell (i := 3) rfl); (try have c4 := hI.cell (i := 4) rfl); (try have c5 := hI.cell (i := 5) rfl); (try have c6 := hI.cell (i := 6) rfl); (try have c7 := hI.cell (i := 7) rfl); (try have c8 := hI.cell (i := 8) rfl); (try have c9 := hI.cell (i := 9) rfl); (try have c10 := hI.cell (i := 10) rfl); (try have c11 := hI.cell (i := 11) rfl); skip) | (refine listI rfl fun K hK => wpI_slice1 _ 9 _ rfl hI Tryd.underlying49 rfl (size := 1) (by kernel_rfl) rfl fun gy w' hI' hb => hK _ _ ?_; clear hK K; (try replace HM1 := Lib.hid (HM1.out.grow hb)); (try replace HM2 := Lib.hid (HM2.out.grow hb)); (try replace HM3 := Lib.hid (HM3.out.grow hb)); (try replace HM4 := Lib.hid (HM4.out.grow hb)); (try clear hb); clear hI; have hI := hI'; clear hI'; (try simp only [List.cons_append, List.nil_append, List.set_cons_zero, List.set_cons_succ, List.setIfInBounds_toArray, Act.put, Act.eval, Array.getD_eq_getD_getElem?, List.getElem?_toArray, List.getElem?_cons_zero, List.getElem?_cons_succ, Option.getD_some] at hI); (try clear c0); (try clear c1); (try clear c2); (try clear c3); (try clear c4); (try clear c5); (try clear c6); (try clear c7); (try clear c8); (try clear c9); (try clear c10); (try clear c11); (try have c0 := hI.cell (i := 0) rfl); (try have c1 := hI.cell (i := 1) rfl); (try have c2 := hI.cell (i := 2) rfl); (try have c3 := hI.cell (i := 3) rfl); (try have c4 := hI.cell (i := 4) rfl); (try have c5 := hI.cell (i := 5) rfl); (try have c6 := hI.cell (i := 6) rfl); (try have c7 := hI.cell (i := 7) rfl); (try have c8 := hI.cell (i := 8) rfl); (try have c9 := hI.cell (i := 9) rfl); (try have c10 := hI.cell (i := 10) rfl); (try have c11 := hI.cell (i := 11) rfl); skip) | (refine listI rfl fun K hK => wpI_app _ _ rfl el_T hI 0 rfl rfl (ys := [wordP ++ Lib.itoa n]) rfl (hI.lies1 (i := 2) rfl _ (fun j hj => by rw [List.getElem?_toArray]; rfl)) rfl (by have := HLN.out; unfold maxLen; simp only [List.length_cons, List.length_nil]; omega) (by have := HLN.out; simp only [List.length_cons, List.length_nil]; omega) fun v' w' hI' => hK _ _ ?_; clear hK K; (try replace HM1 := Lib.hid (HM1.out.grow hb)); (try replace HM2 := Lib.hid (HM2.out.grow hb)); (try replace HM3 := Lib.hid (HM3.out.grow hb)); (try replace HM4 := Lib.hid (HM4.out.grow hb)); (try clear hb); clear hI; have hI := hI'; clear hI'; (try simp only [List.cons_append, List.nil_append, List.set_cons_zero, List.set_cons_succ, List.setIfInBounds_toArray, Act.put, Act.eval, Array.getD_eq_getD_getElem?, List.getElem?_toArray, List.getElem?_cons_zero, List.getElem?_cons_succ, Option.getD_some] at hI); (try clear c0); (try clear c1); (try clear c2); (try clear c3); (try clear c4); (try clear c5); (try clear c6); (try clear c7); (try clear c8); (try clear c9); (try clear c10); (try clear c11); (try have c0 := hI.cell (i := 0) rfl); (try have c1 := hI.cell (i := 1) rfl); (try have c2 := hI.cell (i := 2) rfl); (try have c3 := hI.cell (i := 3) rfl); (try have c4 := hI.cell (i := 4) rfl); (try have c5 := hI.cell (i := 5) rfl); (try have c6 := hI.cell (i := 6) rfl); (try have c7 := hI.cell (i := 7) rfl); (try have c8 := hI.cell (i := 8) rfl); (try have c9 := hI.cell (i := 9) rfl); (try have c10 := hI.cell (i := 10) rfl); (try have c11 := hI.cell (i := 11) rfl); skip) | fail)
            go_roundw
            case rel =>
              refine ⟨k + 1, by go_num, by omega, H2.out, ?_⟩
              have h3 := hI.first [_] [_, _] rfl
              rw [HX.out] at h3
              exact h3
            case measure => simp [intOf]; omega
          · have HR := Lib.hid (fun w h => readF_ok hok ▸ c_inst_Read n w h hni)
            have HT := Lib.hid (fun w h => textF_ok hok ▸ c_inst_Text (unpackF n) w h)
            rw [lineT_ok hok] at HX
            clear hok hni
            generalize unpackF n = i at *
            go_wp2_with (first | (go_at_call 30; (with_reducible refine (HN.out _).mono ?_); rintro e w1 ⟨rfl, rfl⟩) | (go_at_call 24; (with_reducible refine (HI.out _ (hE.inv hI)).mono ?_); intro e w' hr; obtain ⟨rfl, hb⟩ := hr; have hI' := hI.on hb; (try replace HM1 := Lib.hid (HM1.out.grow hb)); (try replace HM2 := Lib.hid (HM2.out.grow hb)); (try replace HM3 := Lib.hid (HM3.out.grow hb)); (try replace HM4 := Lib.hid (HM4.out.grow hb)); (try clear hb); clear hI; have hI := hI'; clear hI'; (try simp only [List.cons_append, List.nil_append, List.set_cons_zero, List.set_cons_succ, List.setIfInBounds_toArray, Act.put, Act.eval, Array.getD_eq_getD_getElem?, List.getElem?_toArray, List.getElem?_cons_zero, List.getElem?_cons_succ, Option.getD_some] at hI); (try clear c0); (try clear c1); (try clear c2); (try clear c3); (try clear c4); (try clear c5); (try clear c6); (try clear c7); (try clear c8); (try clear c9); (try clear c10); (try clear c11); (try have c0 := hI.cell (i := 0) rfl); (try have c1 := hI.cell (i := 1) rfl); (try have c2 := hI.cell (i := 2) rfl); (try have c3 := hI.cell (i := 3) rfl); (try have c4 := hI.cell (i := 4) rfl); (try have c5 := hI.cell (i := 5) rfl); (try have c6 := hI.cell (i := 6) rfl); (try have c7 := hI.cell (i := 7) rfl); (try have c8 := hI.cell (i := 8) rfl); (try have c9 := hI.cell (i := 9) rfl); (try have c10 := hI.cell (i := 10) rfl); (try have c11 := hI.cell (i := 11) rfl); skip) | (go_at_call 31; (with_reducible refine (HR.out _ (hE.env.inv hI)).mono ?_); intro e w' hr; obtain ⟨rfl, hb⟩ := hr; have hI' := hI.on hb; (try replace HM1 := Lib.hid (HM1.out.grow hb)); (try replace HM2 := Lib.hid (HM2.out.grow hb)); (try replace HM3 := Lib.hid (HM3.out.grow hb)); (try replace HM4 := Lib.hid (HM4.out.grow hb)); (try clear hb); clear hI; have hI := hI'; clear hI'; (try simp only [List.cons_append, List.nil_append, List.set_cons_zero, List.set_cons_succ, List.setIfInBounds_toArray, Act.put, Act.eval, Array.getD_eq_getD_getElem?, List.getElem?_toArray, List.getElem?_cons_zero, List.getElem?_cons_succ, Option.getD_some] at hI); (try clear c0); (try clear c1); (try clear c2); (try clear c3); (try clear c4); (try clear c5); (try clear c6); (try clear c7); (try clear c8); (try clear c9); (try clear c10); (try clear c11); (try have c0 := hI.cell (i := 0) rfl); (try have c1 := hI.cell (i := 1) rfl); (try have c2 := hI.cell (i := 2) rfl); (try have c3 := hI.cell (i := 3) rfl); (try have c4 := hI.cell (i := 4) rfl); (try have c5 := hI.cell (i := 5) rfl); (try have c6 := hI.cell (i := 6) rfl); (try have c7 := hI.cell (i := 7) rfl); (try have c8 := hI.cell (i := 8) rfl); (try have c9 := hI.cell (i := 9) rfl); (try have c10 := hI.cell (i := 10) rfl); (try have c11 := hI.cell (i := 11) rfl); skip) | (go_at_call 11; (with_reducible refine (HT.out _ (hE.inv hI)).mono ?_); intro e w' hr; obtain ⟨rfl, hb⟩ := hr; have hI' := hI.on hb; (try replace HM1 := Lib.hid (HM1.out.grow hb)); (try replace HM2 := Lib.hid (HM2.out.grow hb)); (try replace HM3 := Lib.hid (HM3.out.grow hb)); (try replace HM4 := Lib.hid (HM4.out.grow hb)); (try clear hb); clear hI; have hI := hI'; clear hI'; (try simp only [List.cons_append, List.nil_append, List.set_cons_zero, List.set_cons_succ, List.setIfInBounds_toArray, Act.put, Act.eval, Array.getD_eq_getD_getElem?, List.getElem?_toArray, List.getElem?_cons_zero, List.getElem?_cons_succ, Option.getD_some] at hI); (try clear c0); (try clear c1); (try clear c2); (try clear c3); (try clear c4); (try clear c5); (try clear c6); (try clear c7); (try clear c8); (try clear c9); (try clear c10); (try clear c11); (try have c0 := hI.cell (i := 0) rfl); (try have c1 := hI.cell (i := 1) rfl); (try have c2 := hI.cell (i := 2) rfl); (try have c3 := hI.cell (i := 3) rfl); (try have c4 := hI.cell (i := 4) rfl); (try have c5 := hI.cell (i := 5) rfl); (try have c6 := hI.cell (i := 6) rfl); (try have c7 := hI.cell (i := 7) rfl); (try have c8 := hI.cell (i := 8) rfl); (try have c9 := hI.cell (i := 9) rfl); (try have c10 := hI.cell (i := 10) rfl); (try have c11 := hI.cell (i := 11) rfl); skip) | (refine listI_var rfl rfl 29 rfl _ _ rfl hI Tryd.zeroValue29 (fun _ => rfl) (fun _ => rfl) (by first | rfl | (simp only [hsz1]; first | done | rfl | kernel_rfl) | (simp only [hsz2]; first | done | rfl | kernel_rfl) | (simp only [hsz]; first | done | rfl | kernel_rfl) | kernel_rfl) (by first | exact info_mach (by assumption) | (simp only [hsz1]; kernel_rfl) | (simp only [hsz2]; kernel_rfl) | (simp only [hsz]; kernel_rfl) | kernel_rfl) (by first | (simp [Value.oneCell']; done) | exact HO1.out | exact HO2.out) fun gx w' hI' hb => ?_; (try replace HM1 := Lib.hid (HM1.out.grow hb)); (try replace HM2 := Lib.hid (HM2.out.grow hb)); (try replace HM3 := Lib.hid (HM3.out.grow hb)); (try replace HM4 := Lib.hid (HM4.out.grow hb)); (try clear hb); clear hI; have hI := hI'; clear hI'; (try simp only [List.cons_append, List.nil_append, List.set_cons_zero, List.set_cons_succ, List.setIfInBounds_toArray, Act.put, Act.eval, Array.getD_eq_getD_getElem?, List.getElem?_toArray, List.getElem?_cons_zero, List.getElem?_cons_succ, Option.getD_some] at hI); (try clear c0); (try clear c1); (try clear c2); (try clear c3); (try clear c4); (try clear c5); (try clear c6); (try clear c7); (try clear c8); (try clear c9); (try clear c10); (try clear c11); (try have c0 := hI.cell (i := 0) rfl); (try have c1 := hI.cell (i := 1) rfl); (try have c2 := hI.cell (i := 2) rfl); (try have c3 := hI.cell (i := 3) rfl); (try have c4 := hI.cell (i := 4) rfl); (try have c5 := hI.cell (i := 5) rfl); (try have c6 := hI.cell (i := 6) rfl); (try have c7 := hI.cell (i := 7) rfl); (try have c8 := hI.cell (i := 8) rfl); (try have c9 := hI.cell (i := 9) rfl); (try have c10 := hI.cell (i := 10) rfl); (try have c11 := hI.cell (i := 11) rfl); skip) | (refine listI rfl fun K hK => wpI_slice1 _ 9 _ rfl hI Tryd.underlying49 rfl (size := 1) (by kernel_rfl) rfl fun gy w' hI' hb => hK _ _ ?_; clear hK K; (try replace HM1 := Lib.hid (HM1.out.grow hb)); (try replace HM2 := Lib.hid (HM2.out.grow hb)); (try replace HM3 := Lib.hid (HM3.out.grow hb)); (try replace HM4 := Lib.hid (HM4.out.grow hb)); (try clear hb); clear hI; have hI := hI'; clear hI'; (try simp only [List.cons_append, List.nil_append, List.set_cons_zero, List.set_cons_succ, List.setIfInBounds_toArray, Act.put, Act.eval, Array.getD_eq_getD_getElem?, List.getElem?_toArray, List.getElem?_cons_zero, List.getElem?_cons_succ, Option.getD_some] at hI); (try clear c0); (try clear c1); (try clear c2); (try clear c3); (try clear c4); (try clear c5); (try clear c6); (try clear c7); (try clear c8); (try clear c9); (try clear c10); (try clear c11); (try have c0 := hI.cell (i := 0) rfl); (try have c1 := hI.cell (i := 1) rfl); (try have c2 := hI.cell (i := 2) rfl); (try have c3 := hI.cell (i := 3) rfl); (try have c4 := hI.cell (i := 4) rfl); (try have c5 := hI.cell (i := 5) rfl); (try have c6 := hI.cell (i := 6) rfl); (try have c7 := hI.cell (i := 7) rfl); (try have c8 := hI.cell (i := 8) rfl); (try have c9 := hI.cell (i := 9) rfl); (try have c10 := hI.cell (i := 10) rfl); (try have c11 := hI.cell (i := 11) rfl); skip) | (refine listI rfl fun K hK => wpI_app _ _ rfl el_T hI 0 rfl rfl (ys := [instText i]) rfl (hI.lies1 (i := 2) rfl _ (fun j hj => by rw [List.getElem?_toArray]; rfl)) rfl (by have := HLN.out; unfold maxLen; simp only [List.length_cons, List.length_nil]; omega) (by have := HLN.out; simp only [List.length_cons, List.length_nil]; omega) fun v' w' hI' => hK _ _ ?_; clear hK K; (try replace HM1 := Lib.hid (HM1.out.grow hb)); (try replace HM2 := Lib.hid (HM2.out.grow hb)); (try replace HM3 := Lib.hid (HM3.out.grow hb)); (try replace HM4 := Lib.hid (HM4.out.grow hb)); (try clear hb); clear hI; have hI := hI'; clear hI'; (try simp only [List.cons_append, List.nil_append, List.set_cons_zero, List.set_cons_succ, List.setIfInBounds_toArray, Act.put, Act.eval, Array.getD_eq_getD_getElem?, List.getElem?_toArray, List.getElem?_cons_zero, List.getElem?_cons_succ, Option.getD_some] at hI); (try clear c0); (try clear c1); (try clear c2); (try clear c3); (try clear c4); (try clear c5); (try clear c6); (try clear c7); (try clear c8); (try clear c9); (try clear c10); (try clear c11); (try have c0 := hI.cell (i := 0) rfl); (try have c1 := hI.cell (i := 1) rfl); (try have c2 := hI.cell (i := 2) rfl); (try have c3 := hI.cell (i := 3) rfl); (try have c4 := hI.cell (i := 4) rfl); (try have c5 := hI.cell (i := 5) rfl); (try have c6 := hI.cell (i := 6) rfl); (try have c7 := hI.cell (i := 7) rfl); (try have c8 := hI.cell (i := 8) rfl); (try have c9 := hI.cell (i := 9) rfl); (try have c10 := hI.cell (i := 10) rfl); (try have c11 := hI.cell (i := 11) rfl); skip) | fail)
            go_roundw
            case rel =>
              refine ⟨k + 1, by go_num, by omega, H2.out, ?_⟩
              have h3 := hI.first [_] [_, _] rfl
              rw [HX.out] at h3
              exact h3
            case measure => simp [intOf]; omega
      · obtain rfl : k = l.length := by omega
        have hje : decide ((l.length : Int) < (l.length : Int)) = false := by simp
        have hpt := progT_ok hsm (fun j n hj => HA.out j n (by have := (List.getElem?_eq_some_iff.1 hj).1; omega) hj)
        have HJ := Lib.hid (lines_len HW.out hsm 10)
        have hls := HLS.out
        rw [List.take_length] at hls
        rw [hls] at HJ hpt
        have HPT := Lib.hid hpt
        clear hls hpt
        have hcap := (hI.rowCapT (i := 0) rfl).1
        have hlie := (hI.own0 (enc := encT) (xs := ls) (size := 1) (i := 0) rfl).liesB len_T rfl
        have HLI := Lib.hid hlie
        have HCP := Lib.hid hcap
        clear hlie hcap
        go_wp2_with (first | (go_at_call 29; (with_reducible refine (c_JoinLies V cv ls _ HLI.out HCP.out 10 HJ.out (by have := HLN.out; omega)).mono ?_); intro e w' hr; obtain ⟨rfl, hb⟩ := hr; have hI' := hI.on hb; (try replace HM1 := Lib.hid (HM1.out.grow hb)); (try replace HM2 := Lib.hid (HM2.out.grow hb)); (try replace HM3 := Lib.hid (HM3.out.grow hb)); (try replace HM4 := Lib.hid (HM4.out.grow hb)); (try clear hb); clear hI; have hI := hI'; clear hI'; (try simp only [List.cons_append, List.nil_append, List.set_cons_zero, List.set_cons_succ, List.setIfInBounds_toArray, Act.put, Act.eval, Array.getD_eq_getD_getElem?, List.getElem?_toArray, List.getElem?_cons_zero, List.getElem?_cons_succ, Option.getD_some] at hI); (try clear c0); (try clear c1); (try clear c2); (try clear c3); (try clear c4); (try clear c5); (try clear c6); (try clear c7); (try clear c8); (try clear c9); (try clear c10); (try clear c11); (try have c0 := hI.cell (i := 0) rfl); (try have c1 := hI.cell (i := 1) rfl); (try have c2 := hI.cell (i := 2) rfl); (try have c3 := hI.cell (i := 3) rfl); (try have c4 := hI.cell (i := 4) rfl); (try have c5 := hI.cell (i := 5) rfl); (try have c6 := hI.cell (i := 6) rfl); (try have c7 := hI.cell (i := 7) rfl); (try have c8 := hI.cell (i := 8) rfl); (try have c9 := hI.cell (i := 9) rfl); (try have c10 := hI.cell (i := 10) rfl); (try have c11 := hI.cell (i := 11) rfl); skip) | fail)
        go_returns
        exact ⟨by rw [HPT.out]; rfl, hI.below⟩
end Go.Proofs.YtbkjhdohkdeniaaDoor
