/- What the parts say: The contracts of prog.IsName and of its reference. Conditions: none. -/
import Derived.Test.YtbkjhdohkdeniaaGreatDoorP16
import Derived.Test.YtbkjhdohkdeniaaGreatDoorP19
import Derived.Test.YtbkjhdohkdeniaaGreatDoorP13
import Derived.Test.YtbkjhdohkdeniaaGreatDoorP01
import Derived.Lib.DecodeN
import Derived.Lib.IndexLaws
set_option linter.unusedVariables false
set_option linter.unusedSimpArgs false
namespace Go.Proofs.YtbkjhdohkdeniaaGreatDoor
open Go.RowKit
set_option maxRecDepth 100000
theorem decodeN_high {n a b c d : Nat} (h : 128 ≤ a) : 128 ≤ (Lib.decodeN n a b c d).1 := by
  unfold Lib.decodeN
  repeat' split
  all_goals omega
theorem decodeN_low {n a b c d : Nat} (h : a < 128) : Lib.decodeN n a b c d = (a, 1) := by unfold Lib.decodeN; rw [if_pos h]
theorem get_at {s : ByteArray} {k : Nat} {c : UInt8} (h : s.data.toList[k]? = some c) : s.get! k = c := by
  have hk := (List.getElem?_eq_some_iff.1 h).1
  have : s.get! k = s.data[k]! := rfl
  rw [this]
  have h2 : s.data[k]? = some c := by rw [← Array.getElem?_toList]; exact h
  rw [Array.getElem!_eq_getD, Array.getD_eq_getD_getElem?, h2]
  rfl
theorem badR_byte {c : UInt8} : badR c.toNat = !nameC c := by
  unfold badR nameC
  rw [Bool.eq_iff_iff]
  simp
  try omega
theorem badR_high {r : Nat} (h : 128 ≤ r) : badR r = true := by simp [badR]; omega
theorem badFrom (s : ByteArray) : ∀ (f pos : Nat), s.size ≤ pos + f → (0 ≤ Lib.idxFuncFrom badR true s f pos ↔ (s.data.toList.drop pos).all nameC = false) := by
  intro f
  induction f with
  | zero =>
    intro pos h
    rw [Lib.size_eq] at h
    rw [List.drop_eq_nil_of_le (by omega)]
    simp [Lib.idxFuncFrom]
  | succ f ih =>
    intro pos h
    rw [Lib.size_eq] at h
    unfold Lib.idxFuncFrom
    rcases Nat.lt_or_ge pos s.data.toList.length with hlt | hge
    · rw [if_pos (by rw [Lib.size_eq]; exact hlt)]
      have hc : s.data.toList[pos]? = some s.data.toList[pos] := List.getElem?_eq_getElem hlt
      have hg := get_at hc
      rw [List.drop_eq_getElem_cons hlt, List.all_cons, Lib.decode_at, hg]
      generalize s.data.toList[pos] = c at hg
      rcases Nat.lt_or_ge c.toNat 128 with hl | hh
      · rw [decodeN_low hl]
        simp only [badR_byte]
        cases hn : nameC c
        · simp
        · have := ih (pos + 1) (by rw [Lib.size_eq]; omega)
          simpa using this
      · have hr := decodeN_high (n := s.size - pos) (b := (s.get! (pos + 1)).toNat) (c := (s.get! (pos + 2)).toNat) (d := (s.get! (pos + 3)).toNat) hh
        rw [if_pos (badR_high hr)]
        have : nameC c = false := by simp [nameC]; omega
        rw [this]
        simp
    · rw [if_neg (by rw [Lib.size_eq]; omega), List.drop_eq_nil_of_le hge]
      simp
theorem bad_all (s : ByteArray) : decide (0 ≤ Lib.idxFunc badR true s) = !(s.data.toList.all nameC) := by
  have := badFrom s s.size 0 (by omega)
  rw [List.drop_zero] at this
  rw [Bool.eq_iff_iff, decide_eq_true_iff]
  unfold Lib.idxFunc
  rw [this]
  simp
theorem c_ContainsFunc_name (s : ByteArray) (w : World) : Calls Tryz.prog 100 #[.string s, .func (.func 101) #[] #[]] w (Ret (.bool (!(s.data.toList.all nameC))) w) :=
  (Tryz.strings_ContainsFunc_runes 101 #[] (enters_of Tryz.func101 (by kernel_rfl) rfl) badR s w (fun W x hx hb => (c_IsName1 x hx W).mono fun e w' ⟨he, hw⟩ => ⟨he, 0, by subst hw; rfl⟩)).mono fun e w' ⟨he, hb⟩ => ⟨by rw [he, bad_all], hb⟩
theorem c_prog_IsName (s : ByteArray) (w : World) : Calls Tryz.prog 48 #[.string s] w (Ret (.bool (nameB s.data.toList)) w) := by
  have hI := Inv.start w
  obtain ⟨l, hl⟩ : ∃ l, l = s.data.toList := ⟨_, rfl⟩
  have hsz : s.size = l.length := by rw [hl]; exact Lib.size_eq s
  rcases l with _ | ⟨c, l⟩
  · have H := Lib.hid (show nameB s.data.toList = false by rw [← hl]; rfl)
    have hs : s = ⟨#[]⟩ := by
      obtain ⟨⟨x⟩⟩ := s
      simp at hl
      rw [← hl]
    subst hs
    clear hl hsz
    go_enter Tryz.func48, Tryz.ntmps48
    go_wp2
    go_returns
    exact Ret.bool H.out.symm hI.below
  · have hne : ¬ s.toList = [] := by rw [ByteArray.toList_eq, ← hl]; simp
    have hne2 : s.toList.isEmpty = false := by rw [ByteArray.toList_eq, ← hl]; rfl
    have hsi : s[0]? = some c := by
      have h0 : s.data.toList[0]? = some c := by rw [← hl]; rfl
      have : 0 < s.size := by rw [hsz]; simp
      rw [getElem?_pos s 0 this]
      have h2 : s.data[0]? = some c := by rw [← Array.getElem?_toList]; exact h0
      have h3 := (Array.getElem?_eq_some_iff.1 h2).2
      rw [← h3]; rfl
    have hpos : 0 < s.size := by rw [hsz]; simp
    have hsg : ∀ h : 0 < s.size, s[0]'h = c := fun h => by have := hsi; rw [getElem?_pos s 0 h] at this; exact Option.some.inj this
    clear hsi
    by_cases h12 : 12 < s.size
    · have H := Lib.hid (show nameB s.data.toList = false by rw [← hl]; rw [hsz] at h12; simp [nameB] at h12 ⊢; omega)
      clear hl hsz
      go_enter Tryz.func48, Tryz.ntmps48
      go_wp2_with fail
      go_returns
      exact Ret.bool (by rw [H.out]) hI.below
    · have h12' : (s.size : Int) ≤ 12 := by omega
      by_cases h97 : c.toNat < 97
      · have H := Lib.hid (show nameB s.data.toList = false by rw [← hl]; simp [nameB]; omega)
        have hci : (c.toNat : Int) < 97 := by omega
        clear hl hsz
        go_enter Tryz.func48, Tryz.ntmps48
        go_wp2_with fail
        go_returns
        exact Ret.bool (by rw [H.out]) hI.below
      · have hci : (97 : Int) ≤ (c.toNat : Int) := by omega
        have hlen : l.length + 1 ≤ 12 := by rw [hsz] at h12; simp at h12; omega
        have HC := Lib.hid (fun W => c_ContainsFunc_name s W)
        cases ha : s.data.toList.all nameC
        · have H := Lib.hid (show nameB s.data.toList = false by unfold nameB; rw [ha]; simp)
          rw [ha] at HC
          clear hl hsz ha
          go_enter Tryz.func48, Tryz.ntmps48
          go_wp2_with (go_at_call 100; (with_reducible refine (HC.out _).mono ?_); intro e w' hr; obtain ⟨rfl, hb⟩ := hr; have hI' := hI.on hb; (try clear hb); clear hI; have hI := hI'; clear hI'; (try simp only [mm, Act.put, Act.eval] at hI); (try clear c0); (try clear c1); (try clear c2); (try clear c3); (try clear c4); (try clear c5); (try have c0 := hI.cell (i := 0) rfl); (try have c1 := hI.cell (i := 1) rfl); (try have c2 := hI.cell (i := 2) rfl); (try have c3 := hI.cell (i := 3) rfl); (try have c4 := hI.cell (i := 4) rfl); (try have c5 := hI.cell (i := 5) rfl); skip)
          go_returns
          exact Ret.bool (by rw [H.out]) hI.below
        · have H := Lib.hid (show nameB s.data.toList = true from by
            rw [← hl] at ha ⊢
            have h0 := ha
            rw [List.all_cons, Bool.and_eq_true] at h0
            have h1 := h0.1
            unfold nameC at h1
            unfold nameB
            simp only [Bool.or_eq_true, Bool.and_eq_true, decide_eq_true_eq] at h1
            simp only [ha, List.length_cons, Bool.and_true, Bool.and_eq_true, decide_eq_true_eq]
            omega)
          rw [ha] at HC
          clear hl hsz ha
          go_enter Tryz.func48, Tryz.ntmps48
          go_wp2_with (go_at_call 100; (with_reducible refine (HC.out _).mono ?_); intro e w' hr; obtain ⟨rfl, hb⟩ := hr; have hI' := hI.on hb; (try clear hb); clear hI; have hI := hI'; clear hI'; (try simp only [mm, Act.put, Act.eval] at hI); (try clear c0); (try clear c1); (try clear c2); (try clear c3); (try clear c4); (try clear c5); (try have c0 := hI.cell (i := 0) rfl); (try have c1 := hI.cell (i := 1) rfl); (try have c2 := hI.cell (i := 2) rfl); (try have c3 := hI.cell (i := 3) rfl); (try have c4 := hI.cell (i := 4) rfl); (try have c5 := hI.cell (i := 5) rfl); skip)
          go_returns
          exact Ret.bool (by rw [H.out]) hI.below
theorem extract_one {s : ByteArray} {k : Nat} {c : UInt8} (h : s.data.toList[k]? = some c) : s.extract k (k + 1) = ⟨#[c]⟩ := by
  apply WideShapes.bytes_inj
  have hk := getElem?_lt h
  rw [← ByteArray.toList_eq, Lib.extract_toList, show k + 1 - k = 1 by omega]
  apply List.ext_getElem?
  intro j
  rw [List.getElem?_take, List.getElem?_drop]
  rcases j with _ | j
  · simpa using h
  · simp
theorem idx_letter (c : UInt8) : decide (0 ≤ Lib.indexByte [97, 98, 99, 100, 101, 102, 103, 104, 105, 106, 107, 108, 109, 110, 111, 112, 113, 114, 115, 116, 117, 118, 119, 120, 121, 122] c) = (decide (97 ≤ c.toNat) && decide (c.toNat ≤ 122)) := by
  have h : ∀ n : Fin 256, decide (0 ≤ Lib.indexByte [97, 98, 99, 100, 101, 102, 103, 104, 105, 106, 107, 108, 109, 110, 111, 112, 113, 114, 115, 116, 117, 118, 119, 120, 121, 122] (UInt8.ofNat n)) = (decide (97 ≤ (UInt8.ofNat n).toNat) && decide ((UInt8.ofNat n).toNat ≤ 122)) := by decide +kernel
  have := h ⟨c.toNat, c.toNat_lt⟩
  simpa using this
theorem idx_name (c : UInt8) : decide (0 ≤ Lib.indexByte [97, 98, 99, 100, 101, 102, 103, 104, 105, 106, 107, 108, 109, 110, 111, 112, 113, 114, 115, 116, 117, 118, 119, 120, 121, 122, 48, 49, 50, 51, 52, 53, 54, 55, 56, 57] c) = nameC c := by
  have h : ∀ n : Fin 256, decide (0 ≤ Lib.indexByte [97, 98, 99, 100, 101, 102, 103, 104, 105, 106, 107, 108, 109, 110, 111, 112, 113, 114, 115, 116, 117, 118, 119, 120, 121, 122, 48, 49, 50, 51, 52, 53, 54, 55, 56, 57] (UInt8.ofNat n)) = nameC (UInt8.ofNat n) := by decide +kernel
  have := h ⟨c.toNat, c.toNat_lt⟩
  simpa using this
theorem take_all {l : List UInt8} {k : Nat} {c : UInt8} (h : l[k]? = some c) (ha : (l.take k).all nameC = true) (hc : nameC c = true) : (l.take (k + 1)).all nameC = true := by
  rw [List.take_add_one, h, List.all_append, ha]; simp [hc]
theorem not_all {l : List UInt8} {k : Nat} {c : UInt8} (h : l[k]? = some c) (hc : nameC c = false) : l.all nameC = false := by
  rw [List.all_eq_false]; exact ⟨c, List.mem_of_getElem? h, by simp [hc]⟩
theorem r_letter (s : ByteArray) (k : Nat) (c : UInt8) (h : s.data.toList[k]? = some c) (b : Bool) (hb : (decide (97 ≤ c.toNat) && decide (c.toNat ≤ 122)) = b) (w : World) : Calls Tryz.prog 89 #[.string ⟨#[97, 98, 99, 100, 101, 102, 103, 104, 105, 106, 107, 108, 109, 110, 111, 112, 113, 114, 115, 116, 117, 118, 119, 120, 121, 122]⟩, .string (s.extract k (k + 1))] w fun e w' => e = .returned (.bool b) ∧ w = w' := by
  rw [extract_one h]
  exact (Tryz.strings_Contains_one _ c w).mono fun e w' ⟨he, hw⟩ => ⟨by rw [he, ← hb, ← idx_letter], hw.symm⟩
theorem r_namebyte (s : ByteArray) (k : Nat) (c : UInt8) (h : s.data.toList[k]? = some c) (b : Bool) (hb : nameC c = b) (w : World) : Calls Tryz.prog 89 #[.string ⟨#[97, 98, 99, 100, 101, 102, 103, 104, 105, 106, 107, 108, 109, 110, 111, 112, 113, 114, 115, 116, 117, 118, 119, 120, 121, 122, 48, 49, 50, 51, 52, 53, 54, 55, 56, 57]⟩, .string (s.extract k (k + 1))] w fun e w' => e = .returned (.bool b) ∧ w = w' := by
  rw [extract_one h]
  exact (Tryz.strings_Contains_one _ c w).mono fun e w' ⟨he, hw⟩ => ⟨by rw [he, ← hb, ← idx_name], hw.symm⟩
set_option maxHeartbeats 2000000 in
theorem r_IsName (s : ByteArray) (w : World) : Calls Tryz.prog 37 #[.string s] w (Ret (.bool (nameB s.data.toList)) w) := by
  have hI := Inv.start w
  cases ho : inR (s.size : Int) 1 12
  · have H := Lib.hid (show nameB s.data.toList = false by
      rw [inR_not, Lib.size_eq] at ho
      unfold nameB
      rcases ho with h | h
      · rw [decide_eq_false (by omega : ¬ 1 ≤ s.data.toList.length)]; rfl
      · rw [decide_eq_false (by omega : ¬ s.data.toList.length ≤ 12)]; simp)
    go_enter Tryz.func37, Tryz.ntmps37
    go_wp2_with (go_at_call 39; (with_reducible refine (r_outside _ _ _ _).mono ?_); rintro e w1 ⟨rfl, rfl⟩)
    go_returns
    exact Ret.bool (by rw [H.out]) hI.below
  · have hr := inR_iff.1 ho
    obtain ⟨hr1, hr2⟩ := hr
    have hz := Lib.size_eq s
    obtain ⟨c, l, hl⟩ : ∃ c l, s.data.toList = c :: l := by
      cases h : s.data.toList with
      | nil => rw [h, List.length_nil] at hz; omega
      | cons c l => exact ⟨c, l, rfl⟩
    have h0 : s.data.toList[0]? = some c := by rw [hl]; rfl
    have HZ := Lib.hid hz
    cases hc : (decide (97 ≤ c.toNat) && decide (c.toNat ≤ 122))
    · have H := Lib.hid (show nameB s.data.toList = false by unfold nameB; rw [hl]; simp only [hc]; simp)
      have H0 := Lib.hid (fun w => r_letter s 0 c h0 false hc w)
      clear hl h0 hz hc
      go_enter Tryz.func37, Tryz.ntmps37
      go_wp2_with (first | (go_at_call 39; (with_reducible refine (r_outside _ _ _ _).mono ?_); rintro e w1 ⟨rfl, rfl⟩) | (go_at_call 89; (with_reducible refine (H0.out _).mono ?_); rintro e w1 ⟨rfl, rfl⟩) | fail)
      go_returns
      exact Ret.bool (by rw [H.out]) hI.below
    · have H := Lib.hid (show nameB s.data.toList = s.data.toList.all nameC by
        unfold nameB
        rw [decide_eq_true (by omega : 1 ≤ s.data.toList.length), decide_eq_true (by omega : s.data.toList.length ≤ 12)]
        rw [hl]; simp only [hc, Bool.true_and])
      have H0 := Lib.hid (fun w => r_letter s 0 c h0 true hc w)
      clear hl h0 hz hc
      go_enter Tryz.func37, Tryz.ntmps37
      go_wp2_with (first | (go_at_call 39; (with_reducible refine (r_outside _ _ _ _).mono ?_); rintro e w1 ⟨rfl, rfl⟩) | (go_at_call 89; (with_reducible refine (H0.out _).mono ?_); rintro e w1 ⟨rfl, rfl⟩) | fail)
      go_loopw [15] (fun v wr => ∃ k : Nat, v = .int .i64 k ∧ k ≤ s.size ∧ (s.data.toList.take k).all nameC = true ∧ Inv w [] wr) (fun v _ => (s.size - intOf v).toNat)
      case atStart => exact ⟨0, rfl, by omega, by simp, Inv.start _⟩
      case round =>
        clear hI
        obtain ⟨k, rfl, hk, hall, hI⟩ := hrel
        have HA := Lib.hid hall
        clear hall
        rcases Nat.lt_or_ge k s.size with hlt | hge
        · obtain ⟨d, hd⟩ : ∃ d, s.data.toList[k]? = some d := ⟨_, List.getElem?_eq_getElem (by rw [← HZ.out]; exact hlt)⟩
          cases hn : nameC d
          · have H1 := Lib.hid (fun w => r_namebyte s k d hd false hn w)
            have H2 := Lib.hid (show nameB s.data.toList = false by rw [H.out, not_all hd hn])
            clear hd hn
            go_wp2_with (first | (go_at_call 89; (with_reducible refine (H1.out _).mono ?_); rintro e w1 ⟨rfl, rfl⟩) | fail)
            go_returns
            exact Ret.bool (by rw [H2.out]) hI.below
          · have H1 := Lib.hid (fun w => r_namebyte s k d hd true hn w)
            have H2 := Lib.hid (take_all hd HA.out hn)
            clear hd hn
            go_wp2_with (first | (go_at_call 89; (with_reducible refine (H1.out _).mono ?_); rintro e w1 ⟨rfl, rfl⟩) | fail)
            go_roundw
            case rel => exact ⟨k + 1, by go_num, by omega, H2.out, hI⟩
            case measure => simp [intOf]; omega
        · have H2 := Lib.hid (show nameB s.data.toList = true by rw [H.out]; have := HA.out; rwa [List.take_of_length_le (by rw [← HZ.out]; exact hge)] at this)
          go_wp2_with fail
          go_returns
          exact Ret.bool (by rw [H2.out]) hI.below
end Go.Proofs.YtbkjhdohkdeniaaGreatDoor
