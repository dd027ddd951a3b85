/- The contracts of perm.Read and of the reference's Perm and PermRead. Conditions: none. -/
import Derived.Test.YtbkjhdohkdeniaaDoorPermT
import Derived.Test.YtbkjhdohkdeniaaDoorNum
import Derived.Test.YtbkjhdohkdeniaaDoorBytes2

namespace Go.Proofs.YtbkjhdohkdeniaaDoor
open Go Go.RowKit Go.Shelf
set_option linter.unusedVariables false
set_option linter.unusedSimpArgs false
set_option maxRecDepth 100000
theorem c_IndexRuneS (c : Nat) (h : c ≤ 1114111) (w : World) : Calls Tryd.prog 19 #[.string ⟨#[114, 119, 120, 82, 87, 115, 117]⟩, .int .i32 c] w (Ret (.int .i64 (idxS c)) w) := by
  show Calls Tryd.prog 19 #[.string signsS, .int .i32 c] w (Ret (.int .i64 (idxS c)) w)
  rcases Nat.lt_or_ge c 128 with h1 | h1
  · exact c_IndexRune_low c (by omega) (by omega) w
  · by_cases h2 : (c : Int) = 65533
    · rw [h2]; exact c_IndexRune_err w
    · exact c_IndexRune_high c (by omega) (by omega) h2 w
def orN (p : Int) (k : Nat) : Int := bits BinOp.or IntKind.i64 p (wrap64 (2 ^ k))
def stepP (p r : Int) : Int := if 0 ≤ idxS r then orN p (idxS r).toNat else p
def readP (s : ByteArray) : Nat → Nat → Int → Int
  | 0, _, p => p
  | f + 1, pos, p => if pos < s.size then readP s f (pos + (Utf8.decode s pos).2) (stepP p (Utf8.decode s pos).1) else p
/-- what the signs of a text allow -/
def signsP (s : ByteArray) : Int := readP s s.size 0 0
theorem readP_end (s : ByteArray) (f pos : Nat) (p : Int) (h : ¬ pos < s.size) : readP s f pos p = p := by
  cases f with
  | zero => rfl
  | succ f => rw [readP, if_neg h]
theorem orN_tab : ∀ (p : Fin 128) (k : Fin 7), 0 ≤ orN (p.1 : Int) k.1 ∧ orN (p.1 : Int) k.1 ≤ 127 := by decide +kernel
theorem orN_in {p : Int} (h0 : 0 ≤ p) (h1 : p ≤ 127) {k : Nat} (hk : k < 7) : 0 ≤ orN p k ∧ orN p k ≤ 127 := by
  have h := orN_tab ⟨p.toNat, by omega⟩ ⟨k, hk⟩
  dsimp only at h
  rwa [Int.toNat_of_nonneg h0] at h
theorem idxS_in (R : Nat) : idxS R = -1 ∨ ∃ k : Nat, k < 7 ∧ idxS R = k := by
  unfold idxS
  split
  · have key : ∀ x : Fin 128, Lib.indexByte signsL (x.1 : Int).toNat.toUInt8 = -1 ∨ ∃ k : Fin 7, Lib.indexByte signsL (x.1 : Int).toNat.toUInt8 = (k.1 : Int) := by decide +kernel
    rcases key ⟨R, by omega⟩ with h | ⟨k, h⟩
    · exact .inl h
    · exact .inr ⟨k.1, k.2, h⟩
  · exact .inl rfl
def permRd (s : ByteArray) : Int × Int := if str (permF (signsP s)).1 = s then (signsP s, 0) else (0, 3)
set_option maxHeartbeats 2000000 in
theorem c_perm_Read (s : ByteArray) (w : World) : Calls Tryd.prog 9 #[.string s] w (Ret (.tuple #[.int .i64 (permRd s).1, .int .i64 (permRd s).2]) w) := by
  obtain ⟨ANS, hans⟩ : ∃ a, signsP s = a := ⟨_, rfl⟩
  have HPR := Lib.hid (show permRd s = if str (permF ANS).1 = s then (ANS, 0) else (0, 3) by unfold permRd; rw [hans])
  go_enter Tryd.func9, Tryd.ntmps9
  go_wp2_with fail
  go_loopw [4] (fun v wx => ∃ (pos f : Nat) (p : Int), v = .int .i64 p ∧ 0 ≤ p ∧ p ≤ 127 ∧ s.size ≤ pos + f ∧ readP s f pos p = ANS ∧ wx.heap[w.heap.size]? = some (.stringIter s pos) ∧ Below w.heap.size w wx) (fun _ wx => s.size - wx.iterPos w.heap.size)
  case atStart => exact ⟨0, s.size, 0, rfl, by omega, by omega, by omega, hans, World.iter_heap w s 0, (Below.refl _ w).alloc (Nat.le_refl _) _⟩
  case round =>
    obtain ⟨pos, f, p, rfl, hp0, hp1, hf, hrd, hit, hbw⟩ := hrel
    have hszI : w.heap.size < wr.heap.size := (Array.getElem?_eq_some_iff.1 hit).1
    have hposj : wr.iterPos w.heap.size = pos := by simp only [World.iterPos, hit]
    by_cases hlt : pos < s.size
    · have hnx : ∀ ty, (Instr.next (.pointer (some ⟨w.heap.size, 0, none⟩)) true ty).run Tryd.prog wr = _ := fun ty => Lib.run_next_any_at wr w.heap.size s pos ty hit hlt
      obtain ⟨f, rfl⟩ : ∃ g, f = g + 1 := ⟨f - 1, by omega⟩
      rw [readP, if_pos hlt] at hrd
      have hrl := Lib.rune_le s pos
      have hwp := Lib.width_pos s pos
      obtain ⟨R, hR⟩ : ∃ R, (Utf8.decode s pos).1 = R := ⟨_, rfl⟩
      obtain ⟨K, hK⟩ : ∃ K, (Utf8.decode s pos).2 = K := ⟨_, rfl⟩
      rw [hR, hK] at hnx hrd
      rw [hR] at hrl
      rw [hK] at hwp
      have hit2 := Lib.iterAt_heap wr w.heap.size s pos (pos + K) hit
      have hbw2 := Lib.below_iterAt hbw (k := w.heap.size) (Nat.le_refl _) s (pos + K)
      obtain ⟨W, hW⟩ : ∃ W, wr.iterAt w.heap.size s (pos + K) = W := ⟨_, rfl⟩
      rw [hW] at hnx hit2 hbw2
      have hszW : w.heap.size < W.heap.size := (Array.getElem?_eq_some_iff.1 hit2).1
      have HX := Lib.hid (fun w => c_IndexRuneS R hrl w)
      unfold stepP at hrd
      clear hbw hit hW hR hK
      rcases idxS_in R with hk | ⟨k, hk7, hk⟩
      · rw [hk] at HX
        rw [if_neg (by omega)] at hrd
        have HRD := Lib.hid hrd
        clear hk hrd
        go_wp2_with (first | (go_at_call 19; refine (HX.out _).mono ?_; rintro e W' ⟨rfl, b3⟩) | fail)
        refine ⟨⟨pos + K, f, p, rfl, hp0, hp1, by omega, HRD.out, (b3.block _ hszW).trans hit2, hbw2.trans (b3.mono (Nat.le_of_lt hszW))⟩, ?_⟩
        rw [hposj]
        have : W'.iterPos w.heap.size = pos + K := by
          have h2 := (b3.block _ hszW).trans hit2
          simp only [World.iterPos, h2]
        omega
      · rw [hk] at HX
        rw [hk, if_pos (by omega), Int.toNat_natCast] at hrd
        have HRD := Lib.hid hrd
        have hor := orN_in hp0 hp1 hk7
        clear hk hrd
        go_wp2_with (first | (go_at_call 19; refine (HX.out _).mono ?_; rintro e W' ⟨rfl, b3⟩) | fail)
        refine ⟨⟨pos + K, f, orN p k, rfl, hor.1, hor.2, by omega, HRD.out, (b3.block _ hszW).trans hit2, hbw2.trans (b3.mono (Nat.le_of_lt hszW))⟩, ?_⟩
        rw [hposj]
        have : W'.iterPos w.heap.size = pos + K := by
          have h2 := (b3.block _ hszW).trans hit2
          simp only [World.iterPos, h2]
        omega
    · have hnx : ∀ ty, (Instr.next (.pointer (some ⟨w.heap.size, 0, none⟩)) true ty).run Tryd.prog wr = _ := fun ty => Lib.run_next_end_at wr w.heap.size s pos ty hit hlt
      rw [readP_end s f pos p hlt] at hrd
      subst hrd
      have HT := Lib.hid (fun w => c_perm_Text p w)
      by_cases he : str (permF p).1 = s
      · have HQ := Lib.hid (show permRd s = (p, 0) by rw [HPR.out, if_pos he])
        have hb : (s.toList == s.toList) = true := beq_self_eq_true _
        rw [he] at HT
        clear he HPR
        go_wp2_with (first | (go_at_call 7; refine (HT.out _).mono ?_; rintro e W' ⟨rfl, b3⟩) | fail)
        go_returns
        rw [HQ.out]
        exact ⟨rfl, hbw.trans (b3.mono (Nat.le_of_lt hszI))⟩
      · have HQ := Lib.hid (show permRd s = (0, 3) by rw [HPR.out, if_neg he])
        obtain ⟨t, ht⟩ : ∃ t, str (permF p).1 = t := ⟨_, rfl⟩
        rw [ht] at HT he
        have hb : (t.toList == s.toList) = false := by
          rw [Bool.eq_false_iff]
          intro h
          have h := eq_of_beq h
          rw [Lib.toList_data, Lib.toList_data] at h
          exact he (WideShapes.bytes_inj (by exact h))
        clear ht HPR he
        go_wp2_with (first | (go_at_call 7; refine (HT.out _).mono ?_; rintro e W' ⟨rfl, b3⟩) | fail)
        go_returns
        rw [HQ.out]
        exact ⟨rfl, hbw.trans (b3.mono (Nat.le_of_lt hszI))⟩
theorem permG_app (p : Int) (a b : List UInt8) : ∀ k, permG p (a ++ b) k = permG p a k ++ permG p b (k + a.length) := by
  induction a with
  | nil => intro k; rfl
  | cons x a ih =>
    intro k
    rw [List.cons_append, permG, permG, ih, List.length_cons, show k + 1 + a.length = k + (a.length + 1) by omega]
    split <;> rfl
theorem permG_next {p : Int} {k : Nat} {c : UInt8} (h : signsL[k]? = some c) : permG p (signsL.take (k + 1)) 0 = permG p (signsL.take k) 0 ++ (if bitP p k = true then [c] else []) := by
  have hk := (List.getElem?_eq_some_iff.1 h).1
  rw [List.take_add_one, h, permG_app, List.length_take, Nat.min_eq_left (by omega), Nat.zero_add]
  show _ = _
  congr 1
theorem enc_low {n : Nat} (h : n < 128) : Utf8.encode n = ⟨#[UInt8.ofNat n]⟩ := by
  unfold Utf8.encode
  have hv : Utf8.valid (n : Int) = true := by unfold Utf8.valid; simp; omega
  rw [hv]
  simp only [if_true, Int.toNat_natCast]
  rw [if_pos (by omega)]
set_option maxHeartbeats 2000000 in
theorem r_Perm (p : Int) (w : World) : Calls Tryd.prog 8 #[.int .i64 p] w (Ret (.tuple #[.string (str (permF p).1), .int .i64 (permF p).2]) w) := by
  have HO := Lib.hid (fun w => r_outside p 0 127 w)
  by_cases h : 0 ≤ p ∧ p ≤ 127
  · have HF := Lib.hid (show permF p = (permS p, 0) by unfold permF; rw [if_pos h])
    rw [show inR p 0 127 = true by rw [inR_iff]; exact h] at HO
    obtain ⟨h0, h1⟩ := h
    obtain ⟨ss, hss⟩ : ∃ ss, (⟨#[114, 119, 120, 82, 87, 115, 117]⟩ : ByteArray) = ss := ⟨_, rfl⟩
    have HSS := Lib.hid (show signsS = ss from hss)
    have hz7 : ss.size = 7 := hss ▸ signs_size
    go_enter Tryd.func8, Tryd.ntmps8
    go_wp2_with (first | (go_at_call 20; (with_reducible refine (HO.out _).mono ?_); rintro e w1 ⟨rfl, rfl⟩) | fail)
    (try rw [hss])
    clear hss
    go_loopw [4] (fun v wx => ∃ k : Nat, k ≤ 7 ∧ v = .string (str (permG p (signsL.take k) 0)) ∧ wx.heap[w.heap.size]? = some (.stringIter ss k) ∧ Below w.heap.size w wx) (fun _ wx => 7 - wx.iterPos w.heap.size)
    case atStart => exact ⟨0, by omega, rfl, World.iter_heap w ss 0, (Below.refl _ w).alloc (Nat.le_refl _) _⟩
    case round =>
      obtain ⟨k, hk7, rfl, hit, hbw⟩ := hrel
      have hpos : wr.iterPos w.heap.size = k := by simp only [World.iterPos, hit]
      rcases Nat.lt_or_ge k 7 with hlt | hge
      · have hnx : ∀ ty, (Instr.next (.pointer (some ⟨w.heap.size, 0, none⟩)) true ty).run Tryd.prog wr = _ := fun ty => Lib.run_next_any_at wr w.heap.size ss k ty hit (by omega)
        have hdc := signs_dec ⟨k, hlt⟩
        rw [HSS.out] at hdc
        have hlow := sign_low7 ⟨k, hlt⟩
        obtain ⟨c, hcd, hck⟩ : ∃ c, signsL[k]'hlt = c ∧ signsL[k]? = some c := ⟨_, rfl, List.getElem?_eq_getElem hlt⟩
        dsimp only at hdc hlow
        rw [hcd] at hdc hlow
        rw [hdc] at hnx
        dsimp only at hnx
        have hpg := permG_next (p := p) hck
        have hit2 := Lib.iterAt_heap wr w.heap.size ss k (k + 1) hit
        have hbw2 := Lib.below_iterAt hbw (k := w.heap.size) (Nat.le_refl _) ss (k + 1)
        obtain ⟨W, hW⟩ : ∃ W, wr.iterAt w.heap.size ss (k + 1) = W := ⟨_, rfl⟩
        rw [hW] at hnx hit2 hbw2
        have hW2 : W.iterPos w.heap.size = k + 1 := by simp only [World.iterPos, hit2]
        have henc := enc_low hlow
        have hcu : UInt8.ofNat c.toNat = c := by simp
        rw [hcu] at henc
        have hq : (p / 2 ^ k) % 2 = 0 ∨ (p / 2 ^ k) % 2 = 1 := by omega
        have hlen := permG_len p (signsL.take k) 0
        have hlen2 : (signsL.take k).length ≤ 7 := Nat.le_trans (List.length_take_le' _ _) (by decide)
        have hstr : str (permG p (signsL.take k) 0) ++ (⟨#[c]⟩ : ByteArray) = str (permG p (signsL.take k) 0 ++ [c]) := str_app _ [c]
        have hsz : (str (permG p (signsL.take k) 0)).size ≤ 7 := by rw [str_size]; omega
        have HW2 := Lib.hid hW2
        have HPS := Lib.hid hpos
        have hq1 : 0 ≤ p / 2 ^ k := Int.ediv_nonneg h0 (by exact Int.le_of_lt (Int.pow_pos (by decide)))
        clear hit hbw hW hdc hcd hlow hlen hlen2 hcu hck hW2 hpos hk7 h1
        generalize c.toNat = n at *
        rcases hq with hq | hq
        · have hb : bitP p k = false := by unfold bitP; rw [hq]; rfl
          rw [hb, if_neg (by decide), List.append_nil] at hpg
          have HPG := Lib.hid hpg
          clear hb hstr hpg
          generalize permG p (signsL.take k) 0 = pk at *
          go_wp2_with fail
          go_roundw
          case rel => exact ⟨k + 1, by omega, by rw [HPG.out], hit2, hbw2⟩
          case measure => rw [HPS.out, HW2.out]; omega
        · have hb : bitP p k = true := by unfold bitP; rw [hq]; rfl
          rw [hb, if_pos rfl] at hpg
          have HPG := Lib.hid hpg
          clear hb hpg
          generalize permG p (signsL.take k) 0 = pk at *
          go_wp2_with fail
          go_roundw
          case rel => exact ⟨k + 1, by omega, by rw [HPG.out], hit2, hbw2⟩
          case measure => rw [HPS.out, HW2.out]; omega
      · obtain rfl : k = 7 := by omega
        have hnx : ∀ ty, (Instr.next (.pointer (some ⟨w.heap.size, 0, none⟩)) true ty).run Tryd.prog wr = _ := fun ty => Lib.run_next_end_at wr w.heap.size ss 7 ty hit (by omega)
        have hpl : permG p (signsL.take 7) 0 = permL p := rfl
        rw [hpl]
        by_cases hz : permL p = []
        · have HS := Lib.hid (show permS p = [45] by unfold permS; rw [if_pos hz])
          have he : (str []).toList.isEmpty = true := by rw [Lib.toList_data]; rfl
          rw [hz]
          go_wp2_with fail
          go_returns
          rw [HF.out, HS.out]
          exact ⟨rfl, hbw⟩
        · have HS := Lib.hid (show permS p = permL p by unfold permS; rw [if_neg hz])
          have he : (str (permL p)).toList.isEmpty = false := by
            rw [Lib.toList_data]
            show (permL p).toArray.toList.isEmpty = false
            cases hl : permL p with
            | nil => exact absurd hl hz
            | cons => rfl
          clear hpl
          generalize permL p = pl at *
          go_wp2_with fail
          go_returns
          rw [HF.out, HS.out]
          exact ⟨rfl, hbw⟩
  · have HF := Lib.hid (show permF p = ([], 1) by unfold permF; rw [if_neg h])
    rw [show inR p 0 127 = false by rw [Bool.eq_false_iff]; intro h2; exact h (inR_iff.1 h2)] at HO
    clear h
    go_enter Tryd.func8, Tryd.ntmps8
    go_wp2_with (first | (go_at_call 20; (with_reducible refine (HO.out _).mono ?_); rintro e w1 ⟨rfl, rfl⟩) | fail)
    go_returns
    rw [HF.out]
    exact ⟨rfl, Below.refl _ _⟩
theorem stepP_in {p : Int} (h0 : 0 ≤ p) (h1 : p ≤ 127) (R : Nat) : 0 ≤ stepP p R ∧ stepP p R ≤ 127 := by
  unfold stepP
  rcases idxS_in R with h | ⟨k, hk, h⟩
  · rw [h, if_neg (by omega)]; exact ⟨h0, h1⟩
  · rw [h, if_pos (by omega), Int.toNat_natCast]; exact orN_in h0 h1 hk
theorem readP_in (s : ByteArray) : ∀ (f pos : Nat) (p : Int), 0 ≤ p → p ≤ 127 → 0 ≤ readP s f pos p ∧ readP s f pos p ≤ 127 := by
  intro f
  induction f with
  | zero => intro pos p h0 h1; exact ⟨h0, h1⟩
  | succ f ih =>
    intro pos p h0 h1
    rw [readP]
    split
    · have := stepP_in h0 h1 (Utf8.decode s pos).1
      exact ih _ _ this.1 this.2
    · exact ⟨h0, h1⟩
theorem perm_tab : ∀ k : Fin 128, signsP (str (permS (k.1 : Int))) = (k.1 : Int) := by decide +kernel
theorem permRd_yes {k : Nat} (hk : k < 128) {s : ByteArray} (h : str (permF k).1 = s) : permRd s = ((k : Int), 0) := by
  subst h
  have hF : permF k = (permS k, 0) := by unfold permF; rw [if_pos (by omega)]
  have ht := perm_tab ⟨k, hk⟩
  dsimp only at ht
  unfold permRd
  rw [hF]
  dsimp only
  rw [ht, hF, if_pos rfl]
theorem permRd_no {s : ByteArray} (h : ∀ j : Nat, j < 128 → ¬ str (permF j).1 = s) : permRd s = (0, 3) := by
  have hin : 0 ≤ signsP s ∧ signsP s ≤ 127 := readP_in s s.size 0 0 (by omega) (by omega)
  have hn := h (signsP s).toNat (by omega)
  rw [Int.toNat_of_nonneg hin.1] at hn
  unfold permRd
  rw [if_neg hn]
set_option maxHeartbeats 2000000 in
theorem r_PermRead (s : ByteArray) (w : World) : Calls Tryd.prog 10 #[.string s] w (Ret (.tuple #[.int .i64 (permRd s).1, .int .i64 (permRd s).2]) w) := by
  have HT := Lib.hid (fun (k : Nat) w => r_Perm k w)
  have hI := Inv.start w
  go_enter Tryd.func10, Tryd.ntmps10
  go_wp2_with fail
  go_loopw [7] (fun v wx => ∃ k : Nat, k ≤ 128 ∧ v = .int .i64 k ∧ (∀ j : Nat, j < k → ¬ str (permF j).1 = s) ∧ Inv w [] wx) (fun v wx => (128 - intOf v).toNat)
  case atStart => exact ⟨0, by omega, rfl, fun j h => by omega, hI⟩
  case round =>
    clear hI
    obtain ⟨k, hk, rfl, hall, hI⟩ := hrel
    have HA := Lib.hid hall
    clear hall
    rcases Nat.lt_or_ge k 128 with hlt | hge
    · have hki : (k : Int) < 128 := by omega
      by_cases he : str (permF k).1 = s
      · have HQ := Lib.hid (permRd_yes hlt he)
        have H1 := Lib.hid (fun w => he ▸ HT.out k w)
        have hb : (s.toList == s.toList) = true := beq_self_eq_true _
        clear he
        go_wp2_with (first | (go_at_call 8; (with_reducible refine (H1.out _).mono ?_); intro e w' hr; obtain ⟨rfl, hb⟩ := hr; have hI' := hI.on hb; (try replace HM1 := Lib.hid (HM1.out.grow hb)); (try replace HM2 := Lib.hid (HM2.out.grow hb)); (try replace HM3 := Lib.hid (HM3.out.grow hb)); (try replace HM4 := Lib.hid (HM4.out.grow hb)); (try clear hb); clear hI; have hI := hI'; clear hI'; (try simp only [List.cons_append, List.nil_append, List.set_cons_zero, List.set_cons_succ, List.setIfInBounds_toArray, Act.put, Act.eval, Array.getD_eq_getD_getElem?, List.getElem?_toArray, List.getElem?_cons_zero, List.getElem?_cons_succ, Option.getD_some] at hI); (try clear c0); (try clear c1); (try clear c2); (try clear c3); (try clear c4); (try clear c5); (try clear c6); (try clear c7); (try clear c8); (try clear c9); (try clear c10); (try clear c11); (try have c0 := hI.cell (i := 0) rfl); (try have c1 := hI.cell (i := 1) rfl); (try have c2 := hI.cell (i := 2) rfl); (try have c3 := hI.cell (i := 3) rfl); (try have c4 := hI.cell (i := 4) rfl); (try have c5 := hI.cell (i := 5) rfl); (try have c6 := hI.cell (i := 6) rfl); (try have c7 := hI.cell (i := 7) rfl); (try have c8 := hI.cell (i := 8) rfl); (try have c9 := hI.cell (i := 9) rfl); (try have c10 := hI.cell (i := 10) rfl); (try have c11 := hI.cell (i := 11) rfl); skip) | fail)
        go_returns
        rw [HQ.out]
        exact ⟨rfl, hI.below⟩
      · have HN := Lib.hid (show ∀ j : Nat, j < k + 1 → ¬ str (permF j).1 = s from fun j hj => by
          rcases Nat.lt_or_ge j k with h | h
          · exact HA.out j h
          · obtain rfl : j = k := by omega
            exact he)
        have H1 := Lib.hid (fun w => HT.out k w)
        obtain ⟨t, ht⟩ : ∃ t, str (permF k).1 = t := ⟨_, rfl⟩
        rw [ht] at H1 he
        have hb : (t.toList == s.toList) = false := by
          rw [Bool.eq_false_iff]
          intro h
          have h := eq_of_beq h
          rw [Lib.toList_data, Lib.toList_data] at h
          exact he (WideShapes.bytes_inj (by exact h))
        clear ht he
        go_wp2_with (first | (go_at_call 8; (with_reducible refine (H1.out _).mono ?_); intro e w' hr; obtain ⟨rfl, hb⟩ := hr; have hI' := hI.on hb; (try replace HM1 := Lib.hid (HM1.out.grow hb)); (try replace HM2 := Lib.hid (HM2.out.grow hb)); (try replace HM3 := Lib.hid (HM3.out.grow hb)); (try replace HM4 := Lib.hid (HM4.out.grow hb)); (try clear hb); clear hI; have hI := hI'; clear hI'; (try simp only [List.cons_append, List.nil_append, List.set_cons_zero, List.set_cons_succ, List.setIfInBounds_toArray, Act.put, Act.eval, Array.getD_eq_getD_getElem?, List.getElem?_toArray, List.getElem?_cons_zero, List.getElem?_cons_succ, Option.getD_some] at hI); (try clear c0); (try clear c1); (try clear c2); (try clear c3); (try clear c4); (try clear c5); (try clear c6); (try clear c7); (try clear c8); (try clear c9); (try clear c10); (try clear c11); (try have c0 := hI.cell (i := 0) rfl); (try have c1 := hI.cell (i := 1) rfl); (try have c2 := hI.cell (i := 2) rfl); (try have c3 := hI.cell (i := 3) rfl); (try have c4 := hI.cell (i := 4) rfl); (try have c5 := hI.cell (i := 5) rfl); (try have c6 := hI.cell (i := 6) rfl); (try have c7 := hI.cell (i := 7) rfl); (try have c8 := hI.cell (i := 8) rfl); (try have c9 := hI.cell (i := 9) rfl); (try have c10 := hI.cell (i := 10) rfl); (try have c11 := hI.cell (i := 11) rfl); skip) | fail)
        go_roundw
        case rel => exact ⟨k + 1, by omega, by go_num, HN.out, hI⟩
        case measure => simp [intOf]; omega
    · obtain rfl : k = 128 := by omega
      have HQ := Lib.hid (permRd_no HA.out)
      go_wp2_with fail
      go_returns
      rw [HQ.out]
      exact ⟨rfl, hI.below⟩
end Go.Proofs.YtbkjhdohkdeniaaDoor
