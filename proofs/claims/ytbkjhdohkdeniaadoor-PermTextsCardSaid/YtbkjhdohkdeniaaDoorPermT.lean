/- The contract of perm.Text: the signs of what is allowed. Conditions: none. -/
import Derived.Test.YtbkjhdohkdeniaaDoorPermI
import Derived.Test.YtbkjhdohkdeniaaDoorBytes
import Derived.StillTailTactics
namespace Go.Proofs.YtbkjhdohkdeniaaDoor
open Go Go.RowKit Go.Shelf
set_option linter.unusedVariables false
set_option linter.unusedSimpArgs false
set_option maxRecDepth 100000
def bitP (p : Int) (k : Nat) : Bool := decide ((p / 2 ^ k) % 2 = 1)
def permG (p : Int) : List UInt8 → Nat → List UInt8
  | [], _ => []
  | c :: l, k => if bitP p k = true then c :: permG p l (k + 1) else permG p l (k + 1)
/-- the signs of what is allowed -/
def permL (p : Int) : List UInt8 := permG p signsL 0
theorem permG_at {p : Int} {k : Nat} {c : UInt8} (h : signsL[k]? = some c) : permG p (signsL.drop k) k = (if bitP p k = true then [c] else []) ++ permG p (signsL.drop (k + 1)) (k + 1) := by
  obtain ⟨hk, rfl⟩ := List.getElem?_eq_some_iff.1 h
  rw [List.drop_eq_getElem_cons hk, permG]
  split <;> rfl
theorem bit_tab : ∀ (p : Fin 128) (k : Fin 7), bits BinOp.and IntKind.i64 ((p.1 : Int) / 2 ^ k.1) 1 = ((p.1 : Int) / 2 ^ k.1) % 2 := by decide +kernel
theorem bits_one {p : Int} (hp : 0 ≤ p ∧ p ≤ 127) {k : Nat} (hk : k < 7) : bits BinOp.and IntKind.i64 (p / 2 ^ k) 1 = if bitP p k = true then 1 else 0 := by
  have h := bit_tab ⟨p.toNat, by omega⟩ ⟨k, hk⟩
  dsimp only at h
  rw [Int.toNat_of_nonneg hp.1] at h
  rw [h]
  unfold bitP
  have h2 : (p / 2 ^ k) % 2 = 0 ∨ (p / 2 ^ k) % 2 = 1 := by omega
  rcases h2 with h2 | h2 <;> rw [h2] <;> decide
theorem wp_region_tailP {P : Program} {id : Nat} {Q : Exit → Act → World → Prop} {a : Act} {w : World} {l : List Oper} (n : Nat) (hm : P.follows .mixedOrders = true) (hB : Region.lexTailB .any l.toArray n = true)
    (h : wpStill P l.toArray w.drew (fun a' => wpList P l.toArray Q (l.drop n) a' w.drew) (l.take n) a) : (Code.region id l.toArray true).wp P Q a w := wp_region_still_tail n hm hB h
theorem idx_sign (k : Nat) (hk : k < 7) (c : UInt8) (h : signsL[k]? = some c) : Lib.indexByte signsL c = k ∧ c.toNat < 128 := by
  have key : ∀ k : Fin 7, Lib.indexByte signsL (signsL[k.1]'k.2) = (k.1 : Int) ∧ (signsL[k.1]'k.2).toNat < 128 := by decide
  obtain ⟨h1, rfl⟩ := List.getElem?_eq_some_iff.1 h
  exact key ⟨k, hk⟩
set_option maxHeartbeats 1000000 in
theorem c_Text1 (p : Int) (bp k : Nat) (c : UInt8) (hk : signsL[k]? = some c) (hp : 0 ≤ p ∧ p ≤ 127) (W : World) (hc : W.cell? ⟨bp, 0, none⟩ = some (.int .i64 p)) :
    Calls Tryd.prog 18 #[.int .i32 c.toNat, .pointer (some ⟨bp, 0, none⟩)] W (fun e w' => e = .returned (.int .i32 (if bitP p k = true then c.toNat else -1)) ∧ ∃ q, w' = W.drewN q) := by
  have hk7 : k < 7 := (List.getElem?_eq_some_iff.1 hk).1
  obtain ⟨hi, h128⟩ := idx_sign k hk7 c hk
  have H1 : ∀ w, Calls Tryd.prog 19 #[.string ⟨#[114, 119, 120, 82, 87, 115, 117]⟩, .int .i32 c.toNat] w fun e w' => e = .returned (.int .i64 k) ∧ w' = w := fun w => by
    have h := Tryd.strings_IndexRune_ascii signsS c.toNat w (by omega) (by omega)
    refine h.mono fun e w' ⟨he, hw⟩ => ⟨?_, hw⟩
    rw [he]
    have : ((c.toNat : Int).toNat).toUInt8 = c := by rw [Int.toNat_natCast]; simp
    rw [this]
    exact congrArg _ (congrArg _ hi)
  have HH := Lib.hid H1
  have hbt := bits_one hp hk7
  clear H1 hi hk
  generalize c.toNat = n at *
  cases hb : bitP p k
  · rw [hb, if_neg (by decide)] at hbt
    rw [if_neg (by decide)]
    clear hb
    go_enter Tryd.func18, Tryd.ntmps18
    go_wp2_with fail
    have hcd : W.drew.cell? ⟨bp, 0, none⟩ = some (.int .i64 p) := hc
    refine wp_region_tailP 5 (by kernel_rfl) (by kernel_rfl) ?_
    simp only [List.take_succ_cons, List.take_zero, List.drop_succ_cons, List.drop_zero]
    still_step
    still_step
    still_call (HH.out _)
    still_step
    still_step
    refine wpStill_nil ?_
    clear hbt
    have HD : ∃ q, W.drew = W.drewN q := ⟨1, rfl⟩
    generalize W.drew = W' at *
    go_wp2_with fail
    go_returns
    exact ⟨rfl, HD⟩
  · rw [hb, if_pos rfl] at hbt
    rw [if_pos rfl]
    clear hb
    go_enter Tryd.func18, Tryd.ntmps18
    go_wp2_with fail
    have hcd : W.drew.cell? ⟨bp, 0, none⟩ = some (.int .i64 p) := hc
    refine wp_region_tailP 5 (by kernel_rfl) (by kernel_rfl) ?_
    simp only [List.take_succ_cons, List.take_zero, List.drop_succ_cons, List.drop_zero]
    still_step
    still_step
    still_call (HH.out _)
    still_step
    still_step
    refine wpStill_nil ?_
    clear hbt
    have HD : ∃ q, W.drew = W.drewN q := ⟨1, rfl⟩
    generalize W.drew = W' at *
    go_wp2_with fail
    go_returns
    exact ⟨rfl, HD⟩
theorem signs_dec : ∀ k : Fin 7, Utf8.decode signsS k.1 = ((signsL[k.1]'k.2).toNat, 1) := by decide +kernel
theorem signs_size : signsS.size = 7 := rfl
theorem rest_dec : ∀ (k : Fin 7) (j : Fin 7), k.1 + 1 + j.1 < 7 → Utf8.decode (signsS.extract (k.1 + 1) 7) j.1 = ((signsL.getD (k.1 + 1 + j.1) 0).toNat, 1) := by decide +kernel
theorem rest_size : ∀ k : Fin 7, (signsS.extract (k.1 + 1) 7).size = 6 - k.1 := by decide +kernel
theorem head_size : ∀ k : Fin 7, (signsS.extract 0 k.1).size = k.1 := by decide +kernel
theorem head_list : ∀ k : Fin 7, (signsS.extract 0 k.1).data.toList = signsL.take k.1 := by decide +kernel
theorem sign_low7 : ∀ k : Fin 7, (signsL[k.1]'k.2).toNat < 128 := by decide
theorem permG_len (p : Int) : ∀ (l : List UInt8) (k : Nat), (permG p l k).length ≤ l.length
  | [], _ => Nat.le_refl 0
  | c :: l, k => by
    have := permG_len p l (k + 1)
    unfold permG
    split <;> simp only [List.length_cons] <;> omega
theorem cellAt_of {w W : World} (h : Below w.heap.size w W) {b o : Nat} (hb : b < w.heap.size) : W.cell? ⟨b, o, none⟩ = w.cell? ⟨b, o, none⟩ := by
  unfold World.cell?
  simp only [h.block b hb]
set_option maxHeartbeats 4000000 in
theorem c_MapS (p : Int) (hp : 0 ≤ p ∧ p ≤ 127) (bp : Nat) (w : World) (hb : bp < w.heap.size) (hc : w.cell? ⟨bp, 0, none⟩ = some (.int .i64 p)) :
    Calls Tryd.prog 17 #[.func (.func 18) #[] #[.pointer (some ⟨bp, 0, none⟩)], .string signsS] w (Ret (.string (str (permL p))) w) := by
  obtain ⟨ss, hss⟩ : ∃ ss, signsS = ss := ⟨_, rfl⟩
  have HSS := Lib.hid hss
  rw [hss]
  have hz7 : ss.size = 7 := hss ▸ signs_size
  clear hss
  go_enter Tryd.func17, Tryd.ntmps17
  go_wp2_with fail
  go_loopw [1] (fun s1 wx => s1 = .string ss ∧ ∃ k : Nat, k ≤ 7 ∧ wx.heap[w.heap.size]? = some (.cells #[.pointer none, .slice none 0 0] 71 (0, 0)) ∧ wx.heap[w.heap.size + 1]? = some (.stringIter ss k) ∧ Below w.heap.size w wx ∧ signsL.take k ++ permG p (signsL.drop k) k = permL p) (fun _ wx => 7 - wx.iterPos (w.heap.size + 1))
  case atStart =>
    refine ⟨rfl, 0, by omega, ?_, ?_, ((Below.refl _ w).alloc (Nat.le_refl _) _).alloc (by simp) _, rfl⟩
    · have h1 := heap_alloc_new w (.cells #[.pointer none, .slice none 0 0] 71)
      exact (Below.heap_alloc _ _ _ (by simp)).trans h1
    · have := World.iter_heap (w.alloc (.cells #[.pointer none, .slice none 0 0] 71)) ss 0
      simpa using this
  case round =>
    obtain ⟨rfl, k, hk7, hfr, hit, hbw, hpl⟩ := hrel
    rcases Nat.lt_or_ge k 7 with hlt | hge
    · have hnx : ∀ ty, (Instr.next (.pointer (some ⟨w.heap.size + 1, 0, none⟩)) true ty).run Tryd.prog wr = _ := fun ty => Lib.run_next_any_at wr (w.heap.size + 1) ss k ty hit (by omega)
      have hdc := signs_dec ⟨k, hlt⟩
      rw [HSS.out] at hdc
      have hlow := sign_low7 ⟨k, hlt⟩
      obtain ⟨c, hcd, hck⟩ : ∃ c, signsL[k]'hlt = c ∧ signsL[k]? = some c := ⟨_, rfl, List.getElem?_eq_getElem hlt⟩
      dsimp only at hdc hlow
      rw [hcd] at hdc hlow
      rw [hdc] at hnx
      have hpg := permG_at (p := p) hck
      have hit2 := Lib.iterAt_heap wr (w.heap.size + 1) ss k (k + 1) hit
      have hbw2 := Lib.below_iterAt hbw (k := w.heap.size + 1) (by omega) ss (k + 1)
      have hfr2 : (wr.iterAt (w.heap.size + 1) ss (k + 1)).heap[w.heap.size]? = _ := (Lib.iterAt_other wr (w.heap.size + 1) w.heap.size ss (k + 1) (by omega)).trans hfr
      obtain ⟨W, hWd⟩ : ∃ W, wr.iterAt (w.heap.size + 1) ss (k + 1) = W := ⟨_, rfl⟩
      dsimp only at hnx
      rw [hWd] at hnx hit2 hbw2 hfr2
      have HC := Lib.hid (c_Text1 p bp k c hck hp W ((cellAt_of hbw2 hb).trans hc))
      have hne : ¬ ((c.toNat : Int) = 65533) := by omega
      have hpos : wr.iterPos (w.heap.size + 1) = k := by simp only [World.iterPos, hit]
      cases hbt : bitP p k
      · rw [hbt, if_neg (by decide)] at HC
        rw [hbt, if_neg (by decide), List.nil_append] at hpg
        rw [hpg] at hpl
        have hrl : Lib.runeLen (c.toNat : Int) = 1 := by
          unfold Lib.runeLen
          first | (rw [if_neg (by omega), if_pos (by omega)]; done) | (rw [if_pos (by omega)]; done) | (split <;> omega)
        have HRL := Lib.hid (fun W => hrl ▸ Any.utf8_RuneLen { Tryd.lays230 with } c.toNat W)
        have hxs : (ss.extract 0 k).size = k := by rw [← HSS.out]; exact head_size ⟨k, hlt⟩
        have hxl : (ss.extract 0 k).data.toList = signsL.take k := by rw [← HSS.out]; exact head_list ⟨k, hlt⟩
        have HXS := Lib.hid hxs
        have HXL := Lib.hid hxl
        have HPL := Lib.hid hpl
        have hk7i : (k : Int) ≤ 7 := by omega
        have hk8 : ((k : Int) + 1).toNat = k + 1 := by omega
        have hk9 : k + 1 ≤ 7 := by omega
        clear hpg hbt hdc hcd hck hit hfr hbw hWd hpos hrl hxs hxl hpl
        generalize c.toNat = n at *
        have hm1 : ((-1 : Int) == (n : Int)) = false := beq_eq_false_iff_ne.2 (by omega)
        go_wp2_with (first | (go_at_call 18; refine HC.out.mono ?_; rintro e W' ⟨rfl, q, hq⟩; (have hfr3 : W'.heap[w.heap.size]? = some (.cells #[.pointer none, .slice none 0 0] 71 (0, 0)) := by rw [hq]; exact hfr2); (have hbw3 : Below w.heap.size w W' := by rw [hq]; exact below_drewN' hbw2 q); clear hq) | (go_at_call 41; refine (HRL.out _).mono ?_; rintro e W3 ⟨rfl, rfl⟩) | (go_at_call 42; refine (Any.Builder_Grow_fresh_cap { Tryd.lays230 with } Tryd.Builder_Extra_230 w.heap.size w.heap.size 11 _ (Nat.le_refl _) hfr3 hbw3.size (by decide)).mono ?_; rintro e W4 ⟨rfl, ⟨h4, b4⟩, p4, cap4, hc4, hcap4⟩) | (go_at_call 43; refine (Any.Builder_WriteString_kc { Tryd.lays230 with } Tryd.Builder_Extra_230 w.heap.size w.heap.size [] _ _ (Lib.IsBuilderF.of (Or.inr h4)) (by rw [HXS.out]; simp; omega) (Nat.le_trans hbw3.size b4.size)).mono ?_; rintro e W5 ⟨rfl, ⟨h5w, b5, -⟩, hk5⟩) | fail)
        obtain ⟨v5, hv5, hcap5⟩ := hk5 _ hc4
        have hcap5' : 11 ≤ v5.capOf := by
          have : cap4 ≤ v5.capOf := hcap5
          omega
        have hc0 : [] ++ Lib.strCells (ss.extract 0 k) = Lib.byteCells (signsL.take k) := by rw [List.nil_append, Lib.strCells_eq, HXL.out]
        rw [hc0] at h5w
        obtain ⟨g6, m6, cap6, hc6, hcap6⟩ : ∃ g6 m6 cap6, W5.cell? ⟨w.heap.size, 1, none⟩ = some (.slice (some ⟨g6, 0, none⟩) m6 cap6) ∧ 1 ≤ cap6 := by
          obtain ⟨_, v6, hv6, hown6, _⟩ := h5w
          have e6 : v6 = v5 := by
            have h1 : W5.cell? ⟨w.heap.size, 1, none⟩ = some v6 := by rw [Lib.cell_of_heap hv6]; rfl
            rw [h1] at hv5
            exact Option.some.inj hv5
          rcases hown6.2 with ⟨h0, _⟩ | ⟨g6, cap6, _, _, rfl, _, _, _, hnc, _⟩
          · rw [← e6, h0] at hcap5'
            simp [Value.capOf] at hcap5'
          · refine ⟨g6, _, cap6, by rw [Lib.cell_of_heap hv6]; rfl, ?_⟩
            rw [← e6] at hcap5'
            have : 11 ≤ cap6 := hcap5'
            omega
        have hcapb : ((cap6 : Int) == 0) = false := beq_eq_false_iff_ne.2 (by omega)
        have HCAP := Lib.hid (Any.Builder_Cap_cell { Tryd.lays230 with } w.heap.size _ _ cap6 W5 hc6)
        have hb5 : Below w.heap.size w W5 := (hbw3.trans b4).trans b5
        have HI5 := Lib.hid h5w
        have hxs : (ss.extract (k + 1) 7).size = 6 - k := by rw [← HSS.out]; exact rest_size ⟨k, hlt⟩
        have HRD := Lib.hid (fun (j : Nat) (hj : k + 1 + j < 7) => (show Utf8.decode (ss.extract (k + 1) 7) j = ((signsL.getD (k + 1 + j) 0).toNat, 1) by rw [← HSS.out]; exact rest_dec ⟨k, hlt⟩ ⟨j, by omega⟩ hj))
        obtain ⟨s2, hs2⟩ : ∃ s2, ss.extract (k + 1) 7 = s2 := ⟨_, rfl⟩
        rw [hs2] at hxs HRD
        have HS2 := Lib.hid hs2
        clear hs2 hk5 hv5 hcap5 hcap5' hc0 h5w hc4 hcap4 h4 b4 b5 hbw3 hfr3 hfr2 hit2 hbw2 hnx hc6
        go_wp2_with (first | (go_at_call 45; refine HCAP.out.mono ?_; rintro e W6 ⟨rfl, rfl⟩) | fail)
        rw [HS2.out]
        have hlt5 := HI5.out.lt
        have HC5 := Lib.hid (fun (W : World) (h : Below w.heap.size w W) => (cellAt_of h hb).trans hc)
        go_loopw [] (fun wx => ∃ (j : Nat) (acc : List UInt8), j ≤ 6 - k ∧ Lib.IsBuilderF 71 5 w.heap.size w.heap.size (Lib.byteCells acc) wx ∧ wx.heap[W6.heap.size]? = some (.stringIter s2 j) ∧ Below w.heap.size w wx ∧ acc ++ permG p (signsL.drop (k + 1 + j)) (k + 1 + j) = permL p) (fun wx => 7 - wx.iterPos W6.heap.size)
        case atStart => exact ⟨0, signsL.take k, by omega, Lib.IsBuilderF.alloc (Or.inr HI5.out) _, World.iter_heap W6 s2 0, hb5.alloc hb5.size _, HPL.out⟩
        case round =>
          obtain ⟨j, acc, hj, hI, hit, hbw, hacc⟩ := hrel
          have hszI : W6.heap.size < wr.heap.size := (Array.getElem?_eq_some_iff.1 hit).1
          have hposj : wr.iterPos W6.heap.size = j := by simp only [World.iterPos, hit]
          have hlacc : acc.length ≤ 7 := by
            have h1 := congrArg List.length hacc
            have h2 := permG_len p signsL 0
            rw [List.length_append] at h1
            have h3 : signsL.length = 7 := rfl
            unfold permL at h1
            omega
          rcases Nat.lt_or_ge j (6 - k) with hlt2 | hge2
          · have hnx : ∀ ty, (Instr.next (.pointer (some ⟨W6.heap.size, 0, none⟩)) true ty).run Tryd.prog wr = _ := fun ty => Lib.run_next_any_at wr W6.heap.size s2 j ty hit (by omega)
            have hkj : k + 1 + j < 7 := by omega
            have hlow := sign_low7 ⟨k + 1 + j, hkj⟩
            obtain ⟨c, hcd, hck⟩ : ∃ c, signsL[k + 1 + j]'hkj = c ∧ signsL[k + 1 + j]? = some c := ⟨_, rfl, List.getElem?_eq_getElem hkj⟩
            dsimp only at hlow
            rw [hcd] at hlow
            have hdc := HRD.out j hkj
            rw [List.getD_eq_getElem?_getD, hck, Option.getD_some] at hdc
            rw [hdc] at hnx
            dsimp only at hnx
            have hpg := permG_at (p := p) hck
            have hI2 := hI.iterAt hit (j + 1)
            have hit2 := Lib.iterAt_heap wr W6.heap.size s2 j (j + 1) hit
            have hbw2 := Lib.below_iterAt hbw (k := W6.heap.size) (by omega) s2 (j + 1)
            have hsz2 : w.heap.size ≤ (wr.iterAt W6.heap.size s2 (j + 1)).heap.size := by rw [Lib.iterAt_size]; omega
            obtain ⟨Wa, hWa⟩ : ∃ Wa, wr.iterAt W6.heap.size s2 (j + 1) = Wa := ⟨_, rfl⟩
            rw [hWa] at hnx hI2 hit2 hbw2 hsz2
            have HC := Lib.hid (c_Text1 p bp (k + 1 + j) c hck hp Wa (HC5.out _ hbw2))
            have hjl : j < s2.size := by omega
            cases hbt : bitP p (k + 1 + j)
            · rw [hbt, if_neg (by decide)] at HC
              rw [hbt, if_neg (by decide), List.nil_append] at hpg
              rw [hpg] at hacc
              have HA := Lib.hid hacc
              clear hpg hbt hdc hcd hck hit hbw hI hWa hacc
              generalize c.toNat = n at *
              go_wp2_with (first | (go_at_call 18; refine HC.out.mono ?_; rintro e W' ⟨rfl, q, rfl⟩) | fail)
              go_roundw
              case rel => exact ⟨j + 1, acc, by omega, hI2, hit2, below_drewN' hbw2 q, HA.out⟩
              case measure =>
                rw [hposj]
                have : (Wa.drewN q).iterPos W6.heap.size = j + 1 := by
                  have h2 : (Wa.drewN q).heap[W6.heap.size]? = some (.stringIter s2 (j + 1)) := hit2
                  simp only [World.iterPos, h2]
                omega
            · rw [hbt, if_pos rfl] at HC
              rw [hbt, if_pos rfl] at hpg
              rw [hpg, ← List.append_assoc] at hacc
              have HA := Lib.hid hacc
              have HBC := Lib.hid (show Lib.byteCells acc ++ [.int .u8 (c.toNat : Int)] = Lib.byteCells (acc ++ [c]) by rw [Lib.byteCells_append]; rfl)
              have hbl : (Lib.byteCells acc).length + 1 ≤ 140737488355328 := by rw [Lib.byteCells_length]; omega
              clear hpg hbt hdc hcd hck hit hbw hI hWa hacc
              generalize c.toNat = n at *
              go_wp2_with (first | (go_at_call 18; refine HC.out.mono ?_; rintro e W' ⟨rfl, q, hq⟩; (have hI3 : Lib.IsBuilderF 71 5 w.heap.size w.heap.size (Lib.byteCells acc) W' := by rw [hq]; exact hI2); (have hit3 : W'.heap[W6.heap.size]? = some (.stringIter s2 (j + 1)) := by rw [hq]; exact hit2); (have hbw3 : Below w.heap.size w W' := by rw [hq]; exact below_drewN' hbw2 q); clear hq) | (go_at_call 46; refine (Any.Builder_WriteByte_k { Tryd.lays230 with } Tryd.Builder_Extra_230 w.heap.size w.heap.size _ n _ hI3 hbl hbw3.size).mono ?_; rintro e W7 ⟨rfl, h7, b7, k7⟩) | fail)
              go_roundw
              case rel => exact ⟨j + 1, acc ++ [c], by omega, Or.inr (HBC.out ▸ h7), k7.iter hit3 (by omega), hbw3.trans b7, HA.out⟩
              case measure =>
                rw [hposj]
                have : W7.iterPos W6.heap.size = j + 1 := by
                  have h2 := k7.iter hit3 (by omega)
                  simp only [World.iterPos, h2]
                omega
          · obtain rfl : j = 6 - k := by omega
            have hnx : ∀ ty, (Instr.next (.pointer (some ⟨W6.heap.size, 0, none⟩)) true ty).run Tryd.prog wr = _ := fun ty => Lib.run_next_end_at wr W6.heap.size s2 (6 - k) ty hit (by omega)
            have hfin : str (permL p) = ⟨acc.toArray⟩ := by
              rw [← hacc, show k + 1 + (6 - k) = 7 by omega]
              show str (acc ++ []) = _
              rw [List.append_nil]; rfl
            have HF := Lib.hid hfin
            have HST := Lib.hid (Any.Builder_String_any_k { Tryd.lays230 with } Tryd.Builder_Extra_230 w.heap.size w.heap.size acc wr hI hbw.size)
            clear hacc hfin
            go_wp2_with (first | (go_at_call 47; refine HST.out.mono ?_; rintro e W8 ⟨rfl, -, b8, -⟩) | fail)
            go_returns
            rw [HF.out]
            exact ⟨rfl, hbw.trans b8⟩
      · rw [hbt, if_pos rfl] at HC
        rw [hbt, if_pos rfl] at hpg
        rw [hpg] at hpl
        have hcc : (c :: permG p (signsL.drop (k + 1)) (k + 1)) = [c] ++ permG p (signsL.drop (k + 1)) (k + 1) := rfl
        have hpl2 : signsL.take (k + 1) ++ permG p (signsL.drop (k + 1)) (k + 1) = permL p := by
          rw [← hpl, List.take_add_one, hck]; simp
        have HPL := Lib.hid hpl2
        clear hpg hbt hdc hcd hck hit hfr hbw hWd hpl hpl2 hcc
        generalize c.toNat = n at *
        go_wp2_with (first | (go_at_call 18; refine HC.out.mono ?_; rintro e W' ⟨rfl, q, rfl⟩) | fail)
        go_roundw
        case rel => exact ⟨rfl, k + 1, by omega, hfr2, hit2, below_drewN' hbw2 q, HPL.out⟩
        case measure =>
          rw [hpos]
          have : (W.drewN q).iterPos (w.heap.size + 1) = k + 1 := by
            have h2 : (W.drewN q).heap[w.heap.size + 1]? = some (.stringIter ss (k + 1)) := hit2
            simp only [World.iterPos, h2]
          omega
    · obtain rfl : k = 7 := by omega
      have hnx : ∀ ty, (Instr.next (.pointer (some ⟨w.heap.size + 1, 0, none⟩)) true ty).run Tryd.prog wr = _ := fun ty => Lib.run_next_end_at wr (w.heap.size + 1) ss 7 ty hit (by omega)
      have HCAP := Lib.hid (Any.Builder_Cap_cell { Tryd.lays230 with } w.heap.size none 0 0 wr (by rw [Lib.cell_of_heap hfr]; rfl))
      have HF := Lib.hid (show str (permL p) = ss by rw [← hpl, ← HSS.out]; rfl)
      clear hpl
      go_wp2_with (first | (go_at_call 45; refine HCAP.out.mono ?_; rintro e W6 ⟨rfl, rfl⟩) | fail)
      go_returns
      rw [HF.out]
      exact ⟨rfl, hbw⟩
def permS (p : Int) : List UInt8 := if permL p = [] then [45] else permL p
def permF (p : Int) : List UInt8 × Int := if 0 ≤ p ∧ p ≤ 127 then (permS p, 0) else ([], 1)
set_option maxHeartbeats 1000000 in
theorem c_perm_Text (p : Int) (w : World) : Calls Tryd.prog 7 #[.int .i64 p] w (Ret (.tuple #[.string (str (permF p).1), .int .i64 (permF p).2]) w) := by
  have hI := Inv.start w
  by_cases h : 0 ≤ p ∧ p ≤ 127
  · have HF := Lib.hid (show permF p = (permS p, 0) by unfold permF; rw [if_pos h])
    have HM := Lib.hid (fun bp w h1 h2 => (show Calls Tryd.prog 17 #[.func (.func 18) #[] #[.pointer (some ⟨bp, 0, none⟩)], .string ⟨#[114, 119, 120, 82, 87, 115, 117]⟩] w (Ret (.string (str (permL p))) w) from c_MapS p h bp w h1 h2))
    obtain ⟨h0, h1⟩ := h
    have hd0 : decide (p < 0) = false := by simp; omega
    have hd1 : decide (127 < p) = false := by simp; omega
    by_cases hz : permL p = []
    · have HS := Lib.hid (show permS p = [45] by unfold permS; rw [if_pos hz])
      rw [hz] at HM
      have he : (str []).toList.isEmpty = true := by rw [Lib.toList_data]; rfl
      go_enter Tryd.func7, Tryd.ntmps7
      go_wp2_with (first | (refine listI rfl fun K hK => wpI_box _ _ rfl hI rfl fun gx w' hI' hb => hK _ _ ?_; clear hK K; (try replace HM1 := Lib.hid (HM1.out.grow hb)); (try replace HM2 := Lib.hid (HM2.out.grow hb)); (try replace HM3 := Lib.hid (HM3.out.grow hb)); (try replace HM4 := Lib.hid (HM4.out.grow hb)); (try clear hb); clear hI; have hI := hI'; clear hI'; (try simp only [List.cons_append, List.nil_append, List.set_cons_zero, List.set_cons_succ, List.setIfInBounds_toArray, Act.put, Act.eval, Array.getD_eq_getD_getElem?, List.getElem?_toArray, List.getElem?_cons_zero, List.getElem?_cons_succ, Option.getD_some] at hI); (try clear c0); (try clear c1); (try clear c2); (try clear c3); (try clear c4); (try clear c5); (try clear c6); (try clear c7); (try clear c8); (try clear c9); (try clear c10); (try clear c11); (try have c0 := hI.cell (i := 0) rfl); (try have c1 := hI.cell (i := 1) rfl); (try have c2 := hI.cell (i := 2) rfl); (try have c3 := hI.cell (i := 3) rfl); (try have c4 := hI.cell (i := 4) rfl); (try have c5 := hI.cell (i := 5) rfl); (try have c6 := hI.cell (i := 6) rfl); (try have c7 := hI.cell (i := 7) rfl); (try have c8 := hI.cell (i := 8) rfl); (try have c9 := hI.cell (i := 9) rfl); (try have c10 := hI.cell (i := 10) rfl); (try have c11 := hI.cell (i := 11) rfl); skip) | (refine listI rfl fun K hK => wpI_box1 _ _ rfl hI rfl rfl fun gx w' hI' hb => hK _ _ ?_; clear hK K; (try replace HM1 := Lib.hid (HM1.out.grow hb)); (try replace HM2 := Lib.hid (HM2.out.grow hb)); (try replace HM3 := Lib.hid (HM3.out.grow hb)); (try replace HM4 := Lib.hid (HM4.out.grow hb)); (try clear hb); clear hI; have hI := hI'; clear hI'; (try simp only [List.cons_append, List.nil_append, List.set_cons_zero, List.set_cons_succ, List.setIfInBounds_toArray, Act.put, Act.eval, Array.getD_eq_getD_getElem?, List.getElem?_toArray, List.getElem?_cons_zero, List.getElem?_cons_succ, Option.getD_some] at hI); (try clear c0); (try clear c1); (try clear c2); (try clear c3); (try clear c4); (try clear c5); (try clear c6); (try clear c7); (try clear c8); (try clear c9); (try clear c10); (try clear c11); (try have c0 := hI.cell (i := 0) rfl); (try have c1 := hI.cell (i := 1) rfl); (try have c2 := hI.cell (i := 2) rfl); (try have c3 := hI.cell (i := 3) rfl); (try have c4 := hI.cell (i := 4) rfl); (try have c5 := hI.cell (i := 5) rfl); (try have c6 := hI.cell (i := 6) rfl); (try have c7 := hI.cell (i := 7) rfl); (try have c8 := hI.cell (i := 8) rfl); (try have c9 := hI.cell (i := 9) rfl); (try have c10 := hI.cell (i := 10) rfl); (try have c11 := hI.cell (i := 11) rfl); skip) | (go_at_call 17; (with_reducible refine (HM.out _ _ (hI.lt (i := 0) rfl rfl) (c0 0)).mono ?_); intro e w' hr; obtain ⟨rfl, hb⟩ := hr; have hI' := hI.on hb; (try replace HM1 := Lib.hid (HM1.out.grow hb)); (try replace HM2 := Lib.hid (HM2.out.grow hb)); (try replace HM3 := Lib.hid (HM3.out.grow hb)); (try replace HM4 := Lib.hid (HM4.out.grow hb)); (try clear hb); clear hI; have hI := hI'; clear hI'; (try simp only [List.cons_append, List.nil_append, List.set_cons_zero, List.set_cons_succ, List.setIfInBounds_toArray, Act.put, Act.eval, Array.getD_eq_getD_getElem?, List.getElem?_toArray, List.getElem?_cons_zero, List.getElem?_cons_succ, Option.getD_some] at hI); (try clear c0); (try clear c1); (try clear c2); (try clear c3); (try clear c4); (try clear c5); (try clear c6); (try clear c7); (try clear c8); (try clear c9); (try clear c10); (try clear c11); (try have c0 := hI.cell (i := 0) rfl); (try have c1 := hI.cell (i := 1) rfl); (try have c2 := hI.cell (i := 2) rfl); (try have c3 := hI.cell (i := 3) rfl); (try have c4 := hI.cell (i := 4) rfl); (try have c5 := hI.cell (i := 5) rfl); (try have c6 := hI.cell (i := 6) rfl); (try have c7 := hI.cell (i := 7) rfl); (try have c8 := hI.cell (i := 8) rfl); (try have c9 := hI.cell (i := 9) rfl); (try have c10 := hI.cell (i := 10) rfl); (try have c11 := hI.cell (i := 11) rfl); skip) | fail)
      go_returns
      rw [HF.out, HS.out]
      exact ⟨rfl, hI.below⟩
    · have HS := Lib.hid (show permS p = permL p by unfold permS; rw [if_neg hz])
      have he : (str (permL p)).toList.isEmpty = false := by
        rw [Lib.toList_data]
        show (permL p).toArray.toList.isEmpty = false
        cases hl : permL p with
        | nil => exact absurd hl hz
        | cons => rfl
      generalize permL p = pl at *
      go_enter Tryd.func7, Tryd.ntmps7
      go_wp2_with (first | (refine listI rfl fun K hK => wpI_box _ _ rfl hI rfl fun gx w' hI' hb => hK _ _ ?_; clear hK K; (try replace HM1 := Lib.hid (HM1.out.grow hb)); (try replace HM2 := Lib.hid (HM2.out.grow hb)); (try replace HM3 := Lib.hid (HM3.out.grow hb)); (try replace HM4 := Lib.hid (HM4.out.grow hb)); (try clear hb); clear hI; have hI := hI'; clear hI'; (try simp only [List.cons_append, List.nil_append, List.set_cons_zero, List.set_cons_succ, List.setIfInBounds_toArray, Act.put, Act.eval, Array.getD_eq_getD_getElem?, List.getElem?_toArray, List.getElem?_cons_zero, List.getElem?_cons_succ, Option.getD_some] at hI); (try clear c0); (try clear c1); (try clear c2); (try clear c3); (try clear c4); (try clear c5); (try clear c6); (try clear c7); (try clear c8); (try clear c9); (try clear c10); (try clear c11); (try have c0 := hI.cell (i := 0) rfl); (try have c1 := hI.cell (i := 1) rfl); (try have c2 := hI.cell (i := 2) rfl); (try have c3 := hI.cell (i := 3) rfl); (try have c4 := hI.cell (i := 4) rfl); (try have c5 := hI.cell (i := 5) rfl); (try have c6 := hI.cell (i := 6) rfl); (try have c7 := hI.cell (i := 7) rfl); (try have c8 := hI.cell (i := 8) rfl); (try have c9 := hI.cell (i := 9) rfl); (try have c10 := hI.cell (i := 10) rfl); (try have c11 := hI.cell (i := 11) rfl); skip) | (refine listI rfl fun K hK => wpI_box1 _ _ rfl hI rfl rfl fun gx w' hI' hb => hK _ _ ?_; clear hK K; (try replace HM1 := Lib.hid (HM1.out.grow hb)); (try replace HM2 := Lib.hid (HM2.out.grow hb)); (try replace HM3 := Lib.hid (HM3.out.grow hb)); (try replace HM4 := Lib.hid (HM4.out.grow hb)); (try clear hb); clear hI; have hI := hI'; clear hI'; (try simp only [List.cons_append, List.nil_append, List.set_cons_zero, List.set_cons_succ, List.setIfInBounds_toArray, Act.put, Act.eval, Array.getD_eq_getD_getElem?, List.getElem?_toArray, List.getElem?_cons_zero, List.getElem?_cons_succ, Option.getD_some] at hI); (try clear c0); (try clear c1); (try clear c2); (try clear c3); (try clear c4); (try clear c5); (try clear c6); (try clear c7); (try clear c8); (try clear c9); (try clear c10); (try clear c11); (try have c0 := hI.cell (i := 0) rfl); (try have c1 := hI.cell (i := 1) rfl); (try have c2 := hI.cell (i := 2) rfl); (try have c3 := hI.cell (i := 3) rfl); (try have c4 := hI.cell (i := 4) rfl); (try have c5 := hI.cell (i := 5) rfl); (try have c6 := hI.cell (i := 6) rfl); (try have c7 := hI.cell (i := 7) rfl); (try have c8 := hI.cell (i := 8) rfl); (try have c9 := hI.cell (i := 9) rfl); (try have c10 := hI.cell (i := 10) rfl); (try have c11 := hI.cell (i := 11) rfl); skip) | (go_at_call 17; (with_reducible refine (HM.out _ _ (hI.lt (i := 0) rfl rfl) (c0 0)).mono ?_); intro e w' hr; obtain ⟨rfl, hb⟩ := hr; have hI' := hI.on hb; (try replace HM1 := Lib.hid (HM1.out.grow hb)); (try replace HM2 := Lib.hid (HM2.out.grow hb)); (try replace HM3 := Lib.hid (HM3.out.grow hb)); (try replace HM4 := Lib.hid (HM4.out.grow hb)); (try clear hb); clear hI; have hI := hI'; clear hI'; (try simp only [List.cons_append, List.nil_append, List.set_cons_zero, List.set_cons_succ, List.setIfInBounds_toArray, Act.put, Act.eval, Array.getD_eq_getD_getElem?, List.getElem?_toArray, List.getElem?_cons_zero, List.getElem?_cons_succ, Option.getD_some] at hI); (try clear c0); (try clear c1); (try clear c2); (try clear c3); (try clear c4); (try clear c5); (try clear c6); (try clear c7); (try clear c8); (try clear c9); (try clear c10); (try clear c11); (try have c0 := hI.cell (i := 0) rfl); (try have c1 := hI.cell (i := 1) rfl); (try have c2 := hI.cell (i := 2) rfl); (try have c3 := hI.cell (i := 3) rfl); (try have c4 := hI.cell (i := 4) rfl); (try have c5 := hI.cell (i := 5) rfl); (try have c6 := hI.cell (i := 6) rfl); (try have c7 := hI.cell (i := 7) rfl); (try have c8 := hI.cell (i := 8) rfl); (try have c9 := hI.cell (i := 9) rfl); (try have c10 := hI.cell (i := 10) rfl); (try have c11 := hI.cell (i := 11) rfl); skip) | fail)
      go_returns
      rw [HF.out, HS.out]
      exact ⟨rfl, hI.below⟩
  · have HF := Lib.hid (show permF p = ([], 1) by unfold permF; rw [if_neg h])
    by_cases h0 : p < 0
    · clear h
      go_enter Tryd.func7, Tryd.ntmps7
      go_wp2_with (first | (refine listI rfl fun K hK => wpI_box _ _ rfl hI rfl fun gx w' hI' hb => hK _ _ ?_; clear hK K; (try replace HM1 := Lib.hid (HM1.out.grow hb)); (try replace HM2 := Lib.hid (HM2.out.grow hb)); (try replace HM3 := Lib.hid (HM3.out.grow hb)); (try replace HM4 := Lib.hid (HM4.out.grow hb)); (try clear hb); clear hI; have hI := hI'; clear hI'; (try simp only [List.cons_append, List.nil_append, List.set_cons_zero, List.set_cons_succ, List.setIfInBounds_toArray, Act.put, Act.eval, Array.getD_eq_getD_getElem?, List.getElem?_toArray, List.getElem?_cons_zero, List.getElem?_cons_succ, Option.getD_some] at hI); (try clear c0); (try clear c1); (try clear c2); (try clear c3); (try clear c4); (try clear c5); (try clear c6); (try clear c7); (try clear c8); (try clear c9); (try clear c10); (try clear c11); (try have c0 := hI.cell (i := 0) rfl); (try have c1 := hI.cell (i := 1) rfl); (try have c2 := hI.cell (i := 2) rfl); (try have c3 := hI.cell (i := 3) rfl); (try have c4 := hI.cell (i := 4) rfl); (try have c5 := hI.cell (i := 5) rfl); (try have c6 := hI.cell (i := 6) rfl); (try have c7 := hI.cell (i := 7) rfl); (try have c8 := hI.cell (i := 8) rfl); (try have c9 := hI.cell (i := 9) rfl); (try have c10 := hI.cell (i := 10) rfl); (try have c11 := hI.cell (i := 11) rfl); skip) | (refine listI rfl fun K hK => wpI_box1 _ _ rfl hI rfl rfl fun gx w' hI' hb => hK _ _ ?_; clear hK K; (try replace HM1 := Lib.hid (HM1.out.grow hb)); (try replace HM2 := Lib.hid (HM2.out.grow hb)); (try replace HM3 := Lib.hid (HM3.out.grow hb)); (try replace HM4 := Lib.hid (HM4.out.grow hb)); (try clear hb); clear hI; have hI := hI'; clear hI'; (try simp only [List.cons_append, List.nil_append, List.set_cons_zero, List.set_cons_succ, List.setIfInBounds_toArray, Act.put, Act.eval, Array.getD_eq_getD_getElem?, List.getElem?_toArray, List.getElem?_cons_zero, List.getElem?_cons_succ, Option.getD_some] at hI); (try clear c0); (try clear c1); (try clear c2); (try clear c3); (try clear c4); (try clear c5); (try clear c6); (try clear c7); (try clear c8); (try clear c9); (try clear c10); (try clear c11); (try have c0 := hI.cell (i := 0) rfl); (try have c1 := hI.cell (i := 1) rfl); (try have c2 := hI.cell (i := 2) rfl); (try have c3 := hI.cell (i := 3) rfl); (try have c4 := hI.cell (i := 4) rfl); (try have c5 := hI.cell (i := 5) rfl); (try have c6 := hI.cell (i := 6) rfl); (try have c7 := hI.cell (i := 7) rfl); (try have c8 := hI.cell (i := 8) rfl); (try have c9 := hI.cell (i := 9) rfl); (try have c10 := hI.cell (i := 10) rfl); (try have c11 := hI.cell (i := 11) rfl); skip) | fail)
      go_returns
      rw [HF.out]
      exact ⟨rfl, hI.below⟩
    · have h1 : 127 < p := by omega
      clear h
      go_enter Tryd.func7, Tryd.ntmps7
      go_wp2_with (first | (refine listI rfl fun K hK => wpI_box _ _ rfl hI rfl fun gx w' hI' hb => hK _ _ ?_; clear hK K; (try replace HM1 := Lib.hid (HM1.out.grow hb)); (try replace HM2 := Lib.hid (HM2.out.grow hb)); (try replace HM3 := Lib.hid (HM3.out.grow hb)); (try replace HM4 := Lib.hid (HM4.out.grow hb)); (try clear hb); clear hI; have hI := hI'; clear hI'; (try simp only [List.cons_append, List.nil_append, List.set_cons_zero, List.set_cons_succ, List.setIfInBounds_toArray, Act.put, Act.eval, Array.getD_eq_getD_getElem?, List.getElem?_toArray, List.getElem?_cons_zero, List.getElem?_cons_succ, Option.getD_some] at hI); (try clear c0); (try clear c1); (try clear c2); (try clear c3); (try clear c4); (try clear c5); (try clear c6); (try clear c7); (try clear c8); (try clear c9); (try clear c10); (try clear c11); (try have c0 := hI.cell (i := 0) rfl); (try have c1 := hI.cell (i := 1) rfl); (try have c2 := hI.cell (i := 2) rfl); (try have c3 := hI.cell (i := 3) rfl); (try have c4 := hI.cell (i := 4) rfl); (try have c5 := hI.cell (i := 5) rfl); (try have c6 := hI.cell (i := 6) rfl); (try have c7 := hI.cell (i := 7) rfl); (try have c8 := hI.cell (i := 8) rfl); (try have c9 := hI.cell (i := 9) rfl); (try have c10 := hI.cell (i := 10) rfl); (try have c11 := hI.cell (i := 11) rfl); skip) | (refine listI rfl fun K hK => wpI_box1 _ _ rfl hI rfl rfl fun gx w' hI' hb => hK _ _ ?_; clear hK K; (try replace HM1 := Lib.hid (HM1.out.grow hb)); (try replace HM2 := Lib.hid (HM2.out.grow hb)); (try replace HM3 := Lib.hid (HM3.out.grow hb)); (try replace HM4 := Lib.hid (HM4.out.grow hb)); (try clear hb); clear hI; have hI := hI'; clear hI'; (try simp only [List.cons_append, List.nil_append, List.set_cons_zero, List.set_cons_succ, List.setIfInBounds_toArray, Act.put, Act.eval, Array.getD_eq_getD_getElem?, List.getElem?_toArray, List.getElem?_cons_zero, List.getElem?_cons_succ, Option.getD_some] at hI); (try clear c0); (try clear c1); (try clear c2); (try clear c3); (try clear c4); (try clear c5); (try clear c6); (try clear c7); (try clear c8); (try clear c9); (try clear c10); (try clear c11); (try have c0 := hI.cell (i := 0) rfl); (try have c1 := hI.cell (i := 1) rfl); (try have c2 := hI.cell (i := 2) rfl); (try have c3 := hI.cell (i := 3) rfl); (try have c4 := hI.cell (i := 4) rfl); (try have c5 := hI.cell (i := 5) rfl); (try have c6 := hI.cell (i := 6) rfl); (try have c7 := hI.cell (i := 7) rfl); (try have c8 := hI.cell (i := 8) rfl); (try have c9 := hI.cell (i := 9) rfl); (try have c10 := hI.cell (i := 10) rfl); (try have c11 := hI.cell (i := 11) rfl); skip) | fail)
      go_returns
      rw [HF.out]
      exact ⟨rfl, hI.below⟩
end Go.Proofs.YtbkjhdohkdeniaaDoor
