/- What the parts say: The contracts of the operations of package keys: each returns a plain function of its keys, and the memory that was there is as it was. Conditions: the numbers of a key are numbers of 64 bits. -/
import Derived.Test.YthmpnnfejghhfaaGreatDoorP01
set_option linter.unusedVariables false
set_option linter.unusedSimpArgs false
namespace Go.Proofs.YthmpnnfejghhfaaGreatDoor
theorem az3 {P : Prop} (h : P := by
  go_enter Tryz.func111, Tryz.ntmps111
  go_wp2_with (first | (go_at_call 120; (with_reducible refine (c_keys_both _ _ _).mono ?_); refine am116 ?_; intro w1 hb hz z0 z1 z2 c0 f0 c1 f1 c2 f2) | (go_at_call 119; (with_reducible refine (c_keys_plain _ _).mono ?_); refine am117 ?_; intro w2 hb hz z0 z1 z2 c0 f0 c1 f1 c2 f2) | (go_at_call 121; refine am159 ?_; intro w3 hb hz z0 z1 z2 c0 f0 c1 f1 c2 f2) | (go_at_call 74; (with_reducible refine (c_keys_within _ _ _ _).mono ?_); rintro e w1 ⟨rfl, rfl⟩))
  ((try simp only [Exit.inBlock, Exit.then]); refine bodyPost_ret (by simp [results, Tryz.results111, go_sem, *]; try rfl) rfl ?_)
  exact Ret.key (q := (⟨_, _, _, _, _⟩, _)) H.out.symm bel) : P := h
theorem az4 {P : Prop} (h : P := by
  go_enter Tryz.func112, Tryz.ntmps112
  go_wp2_with (first | (go_at_call 120; (with_reducible refine (c_keys_both _ _ _).mono ?_); refine am116 ?_; intro w1 hb hz z0 z1 z2 c0 f0 c1 f1 c2 f2) | (go_at_call 119; (with_reducible refine (c_keys_plain _ _).mono ?_); refine am117 ?_; intro w2 hb hz z0 z1 z2 c0 f0 c1 f1 c2 f2) | (go_at_call 121; refine am159 ?_; intro w3 hb hz z0 z1 z2 c0 f0 c1 f1 c2 f2) | (go_at_call 74; (with_reducible refine (c_keys_within _ _ _ _).mono ?_); rintro e w1 ⟨rfl, rfl⟩))
  ((try simp only [Exit.inBlock, Exit.then]); refine bodyPost_ret (by simp [results, Tryz.results112, go_sem, *]; try rfl) rfl ?_)
  exact Ret.key (q := (⟨_, _, _, _, _⟩, _)) H.out.symm bel) : P := h
theorem az5 {P : Prop} (h : P := by
  go_enter Tryz.func62, Tryz.ntmps62
  go_wp2_with (first | (go_at_call 83; (with_reducible refine (r_KeyCheck _ hk _).mono ?_); refine am106 ?_; intro w1 hr hb hz c0 f0 c1 f1) | (go_at_call 38; (with_reducible refine (r_outside _ _ _ _).mono ?_); rintro e w1 ⟨rfl, rfl⟩))
  exact az75) : P := h
theorem az10 {P : Prop} (h : P := by
  go_wp2_with (go_at_call 45; (with_reducible refine (c_keys_Check _ _).mono ?_); refine am170 ?_; intro w1 hr hb hz c0 f0)
  go_returns
  exact Ret.int H.out.symm bel) : P := h
theorem az18 {P : Prop} (h : P := by
  go_enter Tryz.func109, Tryz.ntmps109
  go_wp2_with (first | (go_at_call 119; (with_reducible refine (c_keys_plain _ _).mono ?_); refine am106 ?_; intro w1 hr hb hz c0 f0 c1 f1) | (go_at_call 74; (with_reducible refine (c_keys_within _ _ _ _).mono ?_); rintro e w1 ⟨rfl, rfl⟩))
  ((try simp only [Exit.inBlock, Exit.then]); refine bodyPost_ret (by simp [results, Tryz.results109, go_sem, *]; try rfl) rfl ?_)
  exact Ret.key (q := (⟨_, _, _, _, _⟩, _)) H.out.symm bel) : P := h
theorem az29 {P : Prop} (h : P := by
  go_enter Tryz.func108, Tryz.ntmps108
  go_wp2_with (first | (go_at_call 119; (with_reducible refine (c_keys_plain _ _).mono ?_); refine am106 ?_; intro w1 hr hb hz c0 f0 c1 f1) | (go_at_call 74; (with_reducible refine (c_keys_within _ _ _ _).mono ?_); rintro e w1 ⟨rfl, rfl⟩))
  ((try simp only [Exit.inBlock, Exit.then]); refine bodyPost_ret (by simp [results, Tryz.results108, go_sem, *]; try rfl) rfl ?_)
  exact Ret.key (q := (⟨_, _, _, _, _⟩, _)) H.out.symm bel) : P := h
theorem az30 {P : Prop} (h : P := by
  go_enter Tryz.func121, Tryz.ntmps121
  go_wp2_with (go_at_call 89; (with_reducible refine (c_keys_Covers _ _ hk hk.pos _).mono ?_); refine am170 ?_; intro w1 hr hb hz c0 f0)
  go_returns
  exact Ret.int H.out.symm bel) : P := h
theorem az40 {P : Prop} (h : P := by
  go_enter Tryz.func110, Tryz.ntmps110
  go_wp2_with (go_at_call 119; (with_reducible refine (c_keys_plain _ _).mono ?_); refine am106 ?_; intro w1 hr hb hz c0 f0 c1 f1)
  ((try simp only [Exit.inBlock, Exit.then]); refine bodyPost_ret (by simp [results, Tryz.results110, go_sem, *]; try rfl) rfl ?_)
  exact Ret.key (q := (⟨_, _, _, _, _⟩, _)) H.out.symm bel) : P := h
theorem az47 {P : Prop} (h : P := by
  go_enter Tryz.func120, Tryz.ntmps120
  go_wp2_with (go_at_call 45; (with_reducible refine (c_keys_Check _ _).mono ?_); refine am106 ?_; intro w1 hr hb hz c0 f0 c1 f1)
  go_returns
  exact Ret.int H.out.symm bel) : P := h
theorem az68 {P : Prop} (h : P := by
  go_wp2
  go_round
  case rel => exact ⟨m + 1, by omega, by go_num, by rw [HS.out]⟩
  case measure => simp [intOf]; omega) : P := h
theorem az75 {P : Prop} (h : P := by
  ((try simp only [Exit.inBlock, Exit.then]); refine bodyPost_ret (by simp [results, Tryz.results62, go_sem, *]; try rfl) rfl ?_)
  exact Ret.key (q := (⟨_, _, _, _, _⟩, _)) H.out.symm bel) : P := h
theorem am106 {P Q : Prop} (k : Q) (h : Hq Q → P := by (intro k_; intro e w1 hr; obtain ⟨rfl, hb, hc, hf, hz⟩ := hr.use; (try simp only [ws] at hz); have c0 := fun o => hc (w.heap.size) o (by go_size); have f0 := fun o => hf (w.heap.size) o (by go_size); have c1 := fun o => hc (w.heap.size + 1) o (by go_size); have f1 := fun o => hf (w.heap.size + 1) o (by go_size); clear hc hf; simp only [go_sem, *] at c0 f0 c1 f1; revert f1; revert c1; revert f0; revert c0; revert hz; revert hb; revert hr; revert w1; exact k_.out)) : P := h ⟨k⟩
theorem am116 {P Q : Prop} (k : Q) (h : Hq Q → P := by (intro k_; intro e w1 hr; obtain ⟨rfl, hb, hc, hf, hz⟩ := hr.use; (try simp only [ws] at hz); clear hr; have c0 := fun o => hc (w.heap.size) o szl; have f0 := fun o => hf (w.heap.size) o szl; have z0 : w.heap.size < w1.heap.size := szl; have c1 := fun o => hc (w.heap.size + 1) o szl; have f1 := fun o => hf (w.heap.size + 1) o szl; have z1 : w.heap.size + 1 < w1.heap.size := szl; have c2 := fun o => hc (w.heap.size + 2) o szl; have f2 := fun o => hf (w.heap.size + 2) o szl; have z2 : w.heap.size + 2 < w1.heap.size := szl; clear hc hf; simp only [go_sem, World.size_alloc, *] at c0 f0 c1 f1 c2 f2; revert f2; revert c2; revert f1; revert c1; revert f0; revert c0; revert z2; revert z1; revert z0; revert hz; revert hb; revert w1; exact k_.out)) : P := h ⟨k⟩
theorem am117 {P Q : Prop} (k : Q) (h : Hq Q → P := by (intro k_; intro e w2 hr; obtain ⟨rfl, hb, hc, hf, hz⟩ := hr.use; (try simp only [ws] at hz); clear hr; have c0 := fun o => hc (w.heap.size) o szl; have f0 := fun o => hf (w.heap.size) o szl; have z0 : w.heap.size < w2.heap.size := szl; have c1 := fun o => hc (w.heap.size + 1) o szl; have f1 := fun o => hf (w.heap.size + 1) o szl; have z1 : w.heap.size + 1 < w2.heap.size := szl; have c2 := fun o => hc (w.heap.size + 2) o szl; have f2 := fun o => hf (w.heap.size + 2) o szl; have z2 : w.heap.size + 2 < w2.heap.size := szl; clear hc hf; simp only [go_sem, World.size_alloc, *] at c0 f0 c1 f1 c2 f2; revert f2; revert c2; revert f1; revert c1; revert f0; revert c0; revert z2; revert z1; revert z0; revert hz; revert hb; revert w2; exact k_.out)) : P := h ⟨k⟩
theorem am159 {P Q : Prop} (k : Q) (h : Hq Q → P := by (intro k_; (with_reducible refine (c_keys_may _ _ hbb _).mono ?_); intro e w3 hr; obtain ⟨rfl, hb, hc, hf, hz⟩ := hr.use; (try simp only [ws] at hz); clear hr; have c0 := fun o => hc (w.heap.size) o szl; have f0 := fun o => hf (w.heap.size) o szl; have z0 : w.heap.size < w3.heap.size := szl; have c1 := fun o => hc (w.heap.size + 1) o szl; have f1 := fun o => hf (w.heap.size + 1) o szl; have z1 : w.heap.size + 1 < w3.heap.size := szl; have c2 := fun o => hc (w.heap.size + 2) o szl; have f2 := fun o => hf (w.heap.size + 2) o szl; have z2 : w.heap.size + 2 < w3.heap.size := szl; clear hc hf; simp only [go_sem, World.size_alloc, *] at c0 f0 c1 f1 c2 f2; revert f2; revert c2; revert f1; revert c1; revert f0; revert c0; revert z2; revert z1; revert z0; revert hz; revert hb; revert w3; exact k_.out)) : P := h ⟨k⟩
theorem am170 {P Q : Prop} (k : Q) (h : Hq Q → P := by (intro k_; intro e w1 hr; obtain ⟨rfl, hb, hc, hf, hz⟩ := hr.use; (try simp only [ws] at hz); have c0 := fun o => hc (w.heap.size) o (by go_size); have f0 := fun o => hf (w.heap.size) o (by go_size); clear hc hf; simp only [go_sem, *] at c0 f0; revert f0; revert c0; revert hz; revert hb; revert hr; revert w1; exact k_.out)) : P := h ⟨k⟩
open Go.RowKit
set_option maxRecDepth 100000

@[go_sem] theorem lt_add2 (n : Nat) : n < n + 1 + 1 := by omega
@[go_sem] theorem lt_add3 (n : Nat) : n < n + 1 + 1 + 1 := by omega
@[go_sem] theorem lt_add4 (n : Nat) : n < n + 1 + 1 + 1 + 1 := by omega
@[go_sem] theorem lt_plus2 (n : Nat) : n < n + 2 := by omega
@[go_sem] theorem lt_plus3 (n : Nat) : n < n + 3 := by omega
@[go_sem] theorem lt_plus12 (n : Nat) : n + 1 < n + 2 := by omega
@[go_sem] theorem lt_plus13 (n : Nat) : n + 1 < n + 3 := by omega
@[go_sem] theorem lt_plus23 (n : Nat) : n + 2 < n + 3 := by omega

theorem c_keys_plain (k : Key) (w : World) :
    Calls Tryz.prog 119 #[.agg #[.int .i64 k.perm, .int .i64 k.base, .int .i64 k.len, .int .i64 k.pos, .int .i64 k.tag]] w (Ret (.int .i64 (plainE k)) w) := by
  cases hk : keyOk k
  · have H := Lib.hid (show plainE k = 1 by simp [plainE, hk]); have h0 := keyE_no hk
    go_enter Tryz.func119, Tryz.ntmps119
    exact az10
  · have h0 := keyE_ok hk
    by_cases ht : k.tag = 0
    · have H := Lib.hid (show plainE k = 0 by simp [plainE, hk, ht]); have ht' : (k.tag != 0) = false := (by simp [ht]); clear ht
      go_enter Tryz.func119, Tryz.ntmps119
      exact az10
    · have H := Lib.hid (show plainE k = 11 by simp [plainE, hk, ht]); have ht' : (k.tag != 0) = true := (by simp [ht])
      go_enter Tryz.func119, Tryz.ntmps119
      exact az10
theorem c_keys_Drop (k : Key) (p : Int) (w : World) :
    Calls Tryz.prog 110 #[.agg #[.int .i64 k.perm, .int .i64 k.base, .int .i64 k.len, .int .i64 k.pos, .int .i64 k.tag], .int .i64 p] w (Ret (.tuple #[.agg #[.int .i64 (keyDrop k p).1.perm, .int .i64 (keyDrop k p).1.base, .int .i64 (keyDrop k p).1.len, .int .i64 (keyDrop k p).1.pos, .int .i64 (keyDrop k p).1.tag], .int .i64 (keyDrop k p).2]) w) := by
  by_cases hp : plainE k = 0
  · have H := Lib.hid (show keyDrop k p = ({ k with perm := bits .and .i64 k.perm p }, 0) by simp [keyDrop, hp]); have h0 : (plainE k != 0) = false := (by simp [hp]); clear hp
    exact az40
  · have H := Lib.hid (show keyDrop k p = (Key.zero, plainE k) by simp [keyDrop, hp]); have h0 : (plainE k != 0) = true := (by simp [hp]); clear hp
    exact az40
theorem c_keys_Move (k : Key) (n : Int) (hn : i64 n) (w : World) :
    Calls Tryz.prog 108 #[.agg #[.int .i64 k.perm, .int .i64 k.base, .int .i64 k.len, .int .i64 k.pos, .int .i64 k.tag], .int .i64 n] w (Ret (.tuple #[.agg #[.int .i64 (keyMove k n).1.perm, .int .i64 (keyMove k n).1.base, .int .i64 (keyMove k n).1.len, .int .i64 (keyMove k n).1.pos, .int .i64 (keyMove k n).1.tag], .int .i64 (keyMove k n).2]) w) := by
  obtain ⟨n1, n2⟩ := hn
  by_cases hp : plainE k = 0
  · have h0 : (plainE k == 0) = true := (by simp [hp]); obtain ⟨⟨b1, b2⟩, ⟨l1, l2⟩, ⟨p1, p2⟩, ⟨a1, a2⟩, ⟨t1, t2⟩⟩ := keyOk_iff.1 (plainE_zero.1 hp).1
    cases hr0 : inR n (-k.pos) (400 - k.pos)
    · have H := Lib.hid (show keyMove k n = (Key.zero, 13) by simp [keyMove, hp, hr0]); clear hp
      exact az29
    · have H := Lib.hid (show keyMove k n = ({ k with pos := k.pos + n }, 0) by simp [keyMove, hp, hr0]); have e0 := inR_iff.1 hr0; obtain ⟨e1, e2⟩ := e0; have h1 : (plainE k != 0) = false := (by simp [hp]); clear hp
      exact az29
  · have h0 : (plainE k == 0) = false := (by simp [hp]); have h1 : (plainE k != 0) = true := (by simp [hp]); have H := Lib.hid (show keyMove k n = (Key.zero, plainE k) by simp [keyMove, hp]); clear hp
    exact az29
theorem c_keys_Narrow (k : Key) (n : Int) (hn : i64 n) (w : World) :
    Calls Tryz.prog 109 #[.agg #[.int .i64 k.perm, .int .i64 k.base, .int .i64 k.len, .int .i64 k.pos, .int .i64 k.tag], .int .i64 n] w (Ret (.tuple #[.agg #[.int .i64 (keyNarrow k n).1.perm, .int .i64 (keyNarrow k n).1.base, .int .i64 (keyNarrow k n).1.len, .int .i64 (keyNarrow k n).1.pos, .int .i64 (keyNarrow k n).1.tag], .int .i64 (keyNarrow k n).2]) w) := by
  obtain ⟨n1, n2⟩ := hn
  by_cases hp : plainE k = 0
  · have h0 : (plainE k == 0) = true := (by simp [hp]); have h1 : (plainE k != 0) = false := (by simp [hp]); obtain ⟨⟨b1, b2⟩, ⟨l1, l2⟩, ⟨p1, p2⟩, ⟨a1, a2⟩, ⟨t1, t2⟩⟩ := keyOk_iff.1 (plainE_zero.1 hp).1
    rcases Int.lt_or_le k.pos k.base with hl | hl
    · have H := Lib.hid (show keyNarrow k n = (Key.zero, 13) by simp only [keyNarrow, hp, if_true]; rw [if_neg (by omega)]); clear hp
      exact az18
    · have hd : decide (k.pos < k.base) = false := (by simpa using hl)
      cases hr0 : inR n 0 (k.base + k.len - k.pos)
      · have H := Lib.hid (show keyNarrow k n = (Key.zero, 13) by simp [keyNarrow, hp, hr0]); clear hp
        exact az18
      · have H := Lib.hid (show keyNarrow k n = ({ k with base := k.pos, len := n }, 0) by simp [keyNarrow, hp, hr0, hl]); clear hp
        exact az18
  · have h0 : (plainE k == 0) = false := (by simp [hp]); have h1 : (plainE k != 0) = true := (by simp [hp]); have H := Lib.hid (show keyNarrow k n = (Key.zero, plainE k) by simp [keyNarrow, hp]); clear hp
    exact az18
theorem c_keys_may (k : Key) (p : Int) (hk : k.Wf) (w : World) :
    Calls Tryz.prog 121 #[.agg #[.int .i64 k.perm, .int .i64 k.base, .int .i64 k.len, .int .i64 k.pos, .int .i64 k.tag], .int .i64 p] w (Ret (.int .i64 (mayE k p)) w) := by
  cases ht : (k.tag == 0)
  · have H := Lib.hid (show mayE k p = 11 by simp only [mayE, ht]; rfl)
    have ht' : (k.tag != 0) = true := by simp only [bne, ht]; rfl
    exact az30
  · have ht' : (k.tag != 0) = false := by simp only [bne, ht]; rfl
    cases hp : (bits .and .i64 k.perm p == 0)
    · cases hc : cov k k.pos
      · have H := Lib.hid (show mayE k p = 13 by simp only [mayE, ht, hasP, hp, hc]; rfl)
        exact az30
      · have H := Lib.hid (show mayE k p = 0 by simp only [mayE, ht, hasP, hp, hc]; rfl)
        exact az30
    · have H := Lib.hid (show mayE k p = 12 by simp only [mayE, ht, hasP, hp]; rfl)
      exact az30
theorem c_keys_both (k b : Key) (w : World) :
    Calls Tryz.prog 120 #[.agg #[.int .i64 k.perm, .int .i64 k.base, .int .i64 k.len, .int .i64 k.pos, .int .i64 k.tag], .agg #[.int .i64 b.perm, .int .i64 b.base, .int .i64 b.len, .int .i64 b.pos, .int .i64 b.tag]] w (Ret (.int .i64 (bothE k b)) w) := by
  cases hk : keyOk k
  · have H := Lib.hid (show bothE k b = 1 by simp [bothE, hk]); have h0 := keyE_no hk
    exact az47
  · have H := Lib.hid (show bothE k b = keyE b by simp [bothE, hk]); have h0 := keyE_ok hk
    exact az47
theorem c_keys_Seal (k b : Key) (hbb : b.Wf) (w : World) :
    Calls Tryz.prog 111 #[.agg #[.int .i64 k.perm, .int .i64 k.base, .int .i64 k.len, .int .i64 k.pos, .int .i64 k.tag], .agg #[.int .i64 b.perm, .int .i64 b.base, .int .i64 b.len, .int .i64 b.pos, .int .i64 b.tag]] w (Ret (.tuple #[.agg #[.int .i64 (keySeal k b).1.perm, .int .i64 (keySeal k b).1.base, .int .i64 (keySeal k b).1.len, .int .i64 (keySeal k b).1.pos, .int .i64 (keySeal k b).1.tag], .int .i64 (keySeal k b).2]) w) := by
  by_cases h1 : bothE k b = 0
  · have g1 : (bothE k b == 0) = true := (by simp [h1]); have g1' : (bothE k b != 0) = false := (by simp [h1])
    by_cases h2 : plainE k = 0
    · have g2 : (plainE k == 0) = true := (by simp [h2]); have g2' : (plainE k != 0) = false := (by simp [h2])
      by_cases h3 : mayE b 32 = 0
      · have g3 : (mayE b 32 == 0) = true := (by simp [h3]); have g3' : (mayE b 32 != 0) = false := (by simp [h3])
        cases h4 : inR b.pos 1 63
        · have H := Lib.hid (show keySeal k b = (Key.zero, 13) by simp [keySeal, h1, h2, h3, h4]); clear h1 h2 h3
          exact az3
        · have H := Lib.hid (show keySeal k b = ({ k with tag := b.pos }, 0) by simp [keySeal, h1, h2, h3, h4]); clear h1 h2 h3
          exact az3
      · have g3 : (mayE b 32 == 0) = false := (by simp [h3]); have g3' : (mayE b 32 != 0) = true := (by simp [h3]); have H := Lib.hid (show keySeal k b = (Key.zero, mayE b 32) by simp [keySeal, h1, h2, h3]); clear h1 h2 h3
        exact az3
    · have g2 : (plainE k == 0) = false := (by simp [h2]); have g2' : (plainE k != 0) = true := (by simp [h2]); have H := Lib.hid (show keySeal k b = (Key.zero, plainE k) by simp [keySeal, h1, h2]); clear h1 h2
      exact az3
  · have g1 : (bothE k b == 0) = false := (by simp [h1]); have g1' : (bothE k b != 0) = true := (by simp [h1]); have H := Lib.hid (show keySeal k b = (Key.zero, bothE k b) by simp [keySeal, h1]); clear h1
    exact az3
theorem c_keys_Open (k b : Key) (hbb : b.Wf) (w : World) :
    Calls Tryz.prog 112 #[.agg #[.int .i64 k.perm, .int .i64 k.base, .int .i64 k.len, .int .i64 k.pos, .int .i64 k.tag], .agg #[.int .i64 b.perm, .int .i64 b.base, .int .i64 b.len, .int .i64 b.pos, .int .i64 b.tag]] w (Ret (.tuple #[.agg #[.int .i64 (keyOpen k b).1.perm, .int .i64 (keyOpen k b).1.base, .int .i64 (keyOpen k b).1.len, .int .i64 (keyOpen k b).1.pos, .int .i64 (keyOpen k b).1.tag], .int .i64 (keyOpen k b).2]) w) := by
  by_cases h1 : bothE k b = 0
  · have g1 : (bothE k b == 0) = true := (by simp [h1]); have g1' : (bothE k b != 0) = false := (by simp [h1])
    by_cases h2 : k.tag = 0
    · have g2 : (k.tag == 0) = true := (by simp [h2]); have H := Lib.hid (show keyOpen k b = (Key.zero, 11) by simp [keyOpen, h1, h2]); clear h1 h2
      exact az4
    · have g2 : (k.tag == 0) = false := (by simp [h2])
      by_cases h3 : mayE b 64 = 0
      · have g3 : (mayE b 64 == 0) = true := (by simp [h3]); have g3' : (mayE b 64 != 0) = false := (by simp [h3])
        by_cases h4 : k.tag = b.pos
        · have g4 : (k.tag != b.pos) = false := (by simp [h4]); have H := Lib.hid (show keyOpen k b = ({ k with tag := 0 }, 0) by simp only [keyOpen, h1, h3, if_true]; rw [if_neg h2, if_pos h4]); clear h1 h2 h3 h4
          exact az4
        · have g4 : (k.tag != b.pos) = true := (by simp [h4]); have H := Lib.hid (show keyOpen k b = (Key.zero, 11) by simp only [keyOpen, h1, h3, if_true]; rw [if_neg h2, if_neg h4]); clear h1 h2 h3 h4
          exact az4
      · have g3 : (mayE b 64 == 0) = false := (by simp [h3]); have g3' : (mayE b 64 != 0) = true := (by simp [h3]); have H := Lib.hid (show keyOpen k b = (Key.zero, mayE b 64) by simp [keyOpen, h1, h2, h3]); clear h1 h2 h3
        exact az4
  · have g1 : (bothE k b == 0) = false := (by simp [h1]); have g1' : (bothE k b != 0) = true := (by simp [h1]); have H := Lib.hid (show keyOpen k b = (Key.zero, bothE k b) by simp [keyOpen, h1]); clear h1
    exact az4
end Go.Proofs.YthmpnnfejghhfaaGreatDoor
namespace Go.Proofs.YthmpnnfejghhfaaGreatDoor
open Go.RowKit
set_option maxRecDepth 100000

def keyOp (k : Key) (n which : Int) : Key × Int := if which = 0 then keyMove k n else if which = 1 then keyNarrow k n else keyDrop k n

theorem two_pow_mono {a b : Nat} (h : a ≤ b) : (2 : Int) ^ a ≤ 2 ^ b := by
  rcases Nat.lt_or_eq_of_le h with h | h
  · exact Int.le_of_lt (Int.pow_lt_pow_of_lt (by decide) h)
  · rw [h]; exact Int.le_refl _
def bitsTo (x y : Int) : Nat → Int
  | 0 => 0
  | m + 1 => bitsTo x y m + (if x / 2 ^ m % 2 = 1 ∧ y / 2 ^ m % 2 = 1 then 2 ^ m else 0)
theorem bitsTo_lo (x y : Int) (m : Nat) : 0 ≤ bitsTo x y m ∧ bitsTo x y m < 2 ^ m := by
  induction m with
  | zero => simp [bitsTo]
  | succ m ih =>
    have hp : (0 : Int) < 2 ^ m := Int.pow_pos (by decide); have e : (2 : Int) ^ (m + 1) = 2 * 2 ^ m := (by rw [Int.pow_succ, Int.mul_comm]); unfold bitsTo
    split <;> omega
theorem bitsTo_bit (x y : Int) (m : Nat) : ∀ j : Nat, bitsTo x y m / 2 ^ j % 2 = 1 ↔ (j < m ∧ x / 2 ^ j % 2 = 1 ∧ y / 2 ^ j % 2 = 1) := by
  induction m with
  | zero => intro j; simp [bitsTo]
  | succ m ih =>
    intro j; have hb := bitsTo_lo x y m; have hp : (0 : Int) < 2 ^ m := Int.pow_pos (by decide); have hpj : (0 : Int) < 2 ^ j := Int.pow_pos (by decide); unfold bitsTo
    split
    · rename_i hx
      rcases Nat.lt_trichotomy j m with h | h | h
      · have e : (2 : Int) ^ m = 2 ^ j * (2 * 2 ^ (m - j - 1)) := by
          rw [← Int.mul_assoc, ← Int.pow_succ, ← Int.pow_add, show j + 1 + (m - j - 1) = m by omega]
        rw [e, Int.add_mul_ediv_left _ _ (by omega), Int.add_mul_emod_self_left, ih]
        constructor
        · rintro ⟨_, h2⟩; exact ⟨by omega, h2⟩
        · rintro ⟨_, h2⟩; exact ⟨h, h2⟩
      · subst h
        have : (bitsTo x y j + 2 ^ j) / 2 ^ j = 1 := by
          have := Int.add_mul_ediv_left (bitsTo x y j) 1 (show (2 : Int) ^ j ≠ 0 by omega)
          rw [Int.mul_one] at this
          rw [this, Int.ediv_eq_zero_of_lt hb.1 hb.2]; rfl
        rw [this]
        simp [hx]
      · have hlt : bitsTo x y m + 2 ^ m < 2 ^ j := by
          have : (2 : Int) ^ (m + 1) ≤ 2 ^ j := two_pow_mono (by omega)
          have e : (2 : Int) ^ (m + 1) = 2 * 2 ^ m := (by rw [Int.pow_succ, Int.mul_comm])
          omega
        rw [Int.ediv_eq_zero_of_lt (by omega) hlt]
        constructor
        · intro h0; omega
        · rintro ⟨h0, _⟩; omega
    · rename_i hx
      rw [Int.add_zero, ih]
      constructor
      · rintro ⟨h1, h2⟩; exact ⟨by omega, h2⟩
      · rintro ⟨h1, h2⟩
        rcases Nat.lt_or_ge j m with h | h
        · exact ⟨h, h2⟩
        · obtain rfl : j = m := by omega
          exact absurd h2 hx
theorem bitsTo_and (x y : Int) (h0 : 0 ≤ x) (h1 : x ≤ 127) : bitsTo x y 7 = bits .and .i64 x y := by
  have hb := bitsTo_lo x y 7
  have e : bits .and .i64 x y = wrap64 ((BitVec.ofInt 64 x &&& BitVec.ofInt 64 y).toNat : Int) := by
    unfold bits; exact IntWalk.i64_left _
  have hv : BitVec.ofInt 64 (bitsTo x y 7) = BitVec.ofInt 64 x &&& BitVec.ofInt 64 y := by
    refine BitVec.eq_of_getLsbD_eq fun j hj => ?_
    rw [BitVec.getLsbD_and, ofInt_bit _ _ hj, ofInt_bit _ _ hj, ofInt_bit _ _ hj, Bool.eq_iff_iff]
    simp only [Bool.and_eq_true, decide_eq_true_iff, bitsTo_bit]
    constructor
    · rintro ⟨_, h2⟩; exact h2
    · intro h2; refine ⟨?_, h2⟩
      rcases Nat.lt_or_ge j 7 with h | h
      · exact h
      · have : x / 2 ^ j = 0 := Int.ediv_eq_zero_of_lt h0 (by
          have : (2 : Int) ^ 7 ≤ 2 ^ j := two_pow_mono h
          omega)
        rw [this] at h2; omega
  rw [e, ← hv]
  have h2 : (BitVec.ofInt 64 (bitsTo x y 7)).toNat = (bitsTo x y 7).toNat := by
    rw [BitVec.toNat_ofInt]
    congr 1
    rw [Int.emod_eq_of_lt hb.1]
    have := hb.2
    omega
  rw [h2]
  have := hb.1; have := hb.2
  unfold wrap64
  omega

theorem plainE_no {k : Key} (h : keyOk k = false) : plainE k = 1 := by simp [plainE, h]
theorem plainE_tag {k : Key} (h : keyOk k = true) (ht : 0 < k.tag) : plainE k = 11 := by
  have : k.tag ≠ 0 := by omega
  simp [plainE, h, this]
theorem r_KeyOp_no (k : Key) (n which : Int) (hk : k.Wf) (hw : which = 0 ∨ which = 1 ∨ which = 2) (hp : plainE k ≠ 0) (w : World) :
    Calls Tryz.prog 62 #[.agg #[.int .i64 k.perm, .int .i64 k.base, .int .i64 k.len, .int .i64 k.pos, .int .i64 k.tag], .int .i64 n, .int .i64 which] w (Ret (.tuple #[.agg #[.int .i64 (keyOp k n which).1.perm, .int .i64 (keyOp k n which).1.base, .int .i64 (keyOp k n which).1.len, .int .i64 (keyOp k n which).1.pos, .int .i64 (keyOp k n which).1.tag], .int .i64 (keyOp k n which).2]) w) := by
  have HO := Lib.hid (show keyOp k n which = (Key.zero, plainE k) by
    unfold keyOp keyMove keyNarrow keyDrop
    simp only [if_neg hp]
    split <;> (try split) <;> rfl)
  clear hw
  cases ho : keyOk k
  · have H := Lib.hid (HO.out.trans (by rw [plainE_no ho])); have h0 := keyE_no ho; clear hp HO
    exact az5
  · have h0 := keyE_ok ho; obtain ⟨⟨b1, b2⟩, ⟨l1, l2⟩, ⟨p1, p2⟩, ⟨a1, a2⟩, ⟨t1, t2⟩⟩ := keyOk_iff.1 ho
    have ht : 0 < k.tag := by
      have : ¬ (keyOk k = true ∧ k.tag = 0) := fun h => hp (plainE_zero.2 h)
      have : k.tag ≠ 0 := fun h => this ⟨ho, h⟩
      omega
    have H := Lib.hid (HO.out.trans (by rw [plainE_tag ho ht])); clear hp HO
    exact az5
theorem r_KeyOp_drop (k : Key) (n : Int) (hk : k.Wf) (w : World) :
    Calls Tryz.prog 62 #[.agg #[.int .i64 k.perm, .int .i64 k.base, .int .i64 k.len, .int .i64 k.pos, .int .i64 k.tag], .int .i64 n, .int .i64 2] w (Ret (.tuple #[.agg #[.int .i64 (keyDrop k n).1.perm, .int .i64 (keyDrop k n).1.base, .int .i64 (keyDrop k n).1.len, .int .i64 (keyDrop k n).1.pos, .int .i64 (keyDrop k n).1.tag], .int .i64 (keyDrop k n).2]) w) := by
  by_cases hp : plainE k = 0
  · obtain ⟨ho, ht⟩ := plainE_zero.1 hp; obtain ⟨⟨b1, b2⟩, ⟨l1, l2⟩, ⟨p1, p2⟩, ⟨a1, a2⟩, ⟨t1, t2⟩⟩ := keyOk_iff.1 ho; have H := Lib.hid (show keyDrop k n = ({ k with perm := bitsTo k.perm n 7 }, 0) by rw [bitsTo_and _ _ p1 p2]; simp [keyDrop, hp]); have h0 := keyE_ok ho; have ht' : k.tag ≤ 0 := (by omega); have hone := and_one; clear hp ht
    go_enter Tryz.func62, Tryz.ntmps62
    go_wp2_with (first | (go_at_call 83; (with_reducible refine (r_KeyCheck _ hk _).mono ?_); refine am106 ?_; intro w1 hr hb hz c0 f0 c1 f1) | (go_at_call 38; (with_reducible refine (r_outside _ _ _ _).mono ?_); rintro e w1 ⟨rfl, rfl⟩))
    go_loop [9, 81] (fun p i => ∃ m : Nat, m ≤ 7 ∧ i = .int .i64 m ∧ p = .int .i64 (bitsTo k.perm n m)) (fun _ i => 7 - (intOf i).toNat)
    case atStart => exact ⟨0, by omega, rfl, rfl⟩
    case round =>
      obtain ⟨m, hm, rfl, rfl⟩ := hrel
      obtain ⟨q1, q2⟩ := bitsTo_lo k.perm n m; have q3 : (2 : Int) ^ m ≤ 2 ^ 7 := two_pow_mono hm
      rcases Nat.lt_or_ge m 7 with hlt | hge
      · have HN := Lib.hid (show bitsTo k.perm n (m + 1) = bitsTo k.perm n m + (if k.perm / 2 ^ m % 2 = 1 ∧ n / 2 ^ m % 2 = 1 then 2 ^ m else 0) from rfl)
        by_cases hx : k.perm / 2 ^ m % 2 = 1
        · have hx' : (k.perm / 2 ^ m % 2 == 1) = true := (by simp [hx])
          by_cases hy : n / 2 ^ m % 2 = 1
          · have hy' : (n / 2 ^ m % 2 == 1) = true := (by simp [hy]); have HS := Lib.hid (HN.out.trans (by rw [if_pos ⟨hx, hy⟩])); clear hx hy HN
            exact az68
          · have hy' : (n / 2 ^ m % 2 == 1) = false := (by simp [hy]); have HS := Lib.hid (HN.out.trans (by rw [if_neg (by rintro ⟨_, h⟩; exact hy h), Int.add_zero])); clear hx hy HN
            exact az68
        · have hx' : (k.perm / 2 ^ m % 2 == 1) = false := (by simp [hx]); have HS := Lib.hid (HN.out.trans (by rw [if_neg (by rintro ⟨h, _⟩; exact hx h), Int.add_zero])); clear hx HN
          exact az68
      · obtain rfl : m = 7 := by omega
        go_wp2
        exact az75
  · have h := r_KeyOp_no k n 2 hk (by omega) hp w
    exact h
end Go.Proofs.YthmpnnfejghhfaaGreatDoor
namespace Go.Proofs.YthmpnnfejghhfaaGreatDoor
open Go.RowKit
set_option maxRecDepth 100000
set_option maxHeartbeats 4000000 in
theorem r_KeyOp_move (k : Key) (n : Int) (hk : k.Wf) (hn : i64 n) (w : World) :
    Calls Tryz.prog 62 #[.agg #[.int .i64 k.perm, .int .i64 k.base, .int .i64 k.len, .int .i64 k.pos, .int .i64 k.tag], .int .i64 n, .int .i64 0] w (Ret (.tuple #[.agg #[.int .i64 (keyMove k n).1.perm, .int .i64 (keyMove k n).1.base, .int .i64 (keyMove k n).1.len, .int .i64 (keyMove k n).1.pos, .int .i64 (keyMove k n).1.tag], .int .i64 (keyMove k n).2]) w) := by
  by_cases hp : plainE k = 0
  · obtain ⟨ho, ht⟩ := plainE_zero.1 hp; obtain ⟨⟨b1, b2⟩, ⟨l1, l2⟩, ⟨p1, p2⟩, ⟨a1, a2⟩, ⟨t1, t2⟩⟩ := keyOk_iff.1 ho; have h0 := keyE_ok ho; have ht' : k.tag ≤ 0 := (by omega); have HT := Lib.hid ht
    cases g1 : inR n (-400) 400
    · have H := Lib.hid (show keyMove k n = (Key.zero, 13) by
        have : inR n (-k.pos) (400 - k.pos) = false := by
          rw [Bool.eq_false_iff]; intro h; rw [inR_iff] at h
          rw [inR_iff.2 (by omega)] at g1; cases g1
        simp [keyMove, hp, this])
      clear hp ht
      exact az5
    · have i1 := inR_iff.1 g1
      cases g2 : inR (k.pos + n) 0 400
      · have H := Lib.hid (show keyMove k n = (Key.zero, 13) by
          have : inR n (-k.pos) (400 - k.pos) = false := by
            rw [Bool.eq_false_iff]; intro h; rw [inR_iff] at h
            rw [inR_iff.2 (by omega)] at g2; cases g2
          simp [keyMove, hp, this])
        clear hp ht
        exact az5
      · have i2 := inR_iff.1 g2
        have H := Lib.hid (show keyMove k n = (⟨k.perm, k.base, k.len, k.pos + n, 0⟩, 0) by
          have : inR n (-k.pos) (400 - k.pos) = true := inR_iff.2 (by omega)
          simp [keyMove, hp, this, ht])
        clear hp ht
        exact az5
  · have h := r_KeyOp_no k n 0 hk (by omega) hp w
    exact h
set_option maxHeartbeats 4000000 in
theorem r_KeyOp_narrow (k : Key) (n : Int) (hk : k.Wf) (hn : i64 n) (w : World) :
    Calls Tryz.prog 62 #[.agg #[.int .i64 k.perm, .int .i64 k.base, .int .i64 k.len, .int .i64 k.pos, .int .i64 k.tag], .int .i64 n, .int .i64 1] w (Ret (.tuple #[.agg #[.int .i64 (keyNarrow k n).1.perm, .int .i64 (keyNarrow k n).1.base, .int .i64 (keyNarrow k n).1.len, .int .i64 (keyNarrow k n).1.pos, .int .i64 (keyNarrow k n).1.tag], .int .i64 (keyNarrow k n).2]) w) := by
  by_cases hp : plainE k = 0
  · obtain ⟨ho, ht⟩ := plainE_zero.1 hp; obtain ⟨⟨b1, b2⟩, ⟨l1, l2⟩, ⟨p1, p2⟩, ⟨a1, a2⟩, ⟨t1, t2⟩⟩ := keyOk_iff.1 ho; have h0 := keyE_ok ho; have ht' : k.tag ≤ 0 := (by omega)
    have no : ¬(k.base ≤ k.pos ∧ 0 ≤ n ∧ n ≤ k.base + k.len - k.pos) → keyNarrow k n = (Key.zero, 13) := fun h => by
      have : ¬(k.base ≤ k.pos ∧ inR n 0 (k.base + k.len - k.pos) = true) := by rw [inR_iff]; exact h
      simp only [keyNarrow, hp, if_true, if_neg this]
    have NO := Lib.hid no
    have yes : (k.base ≤ k.pos ∧ 0 ≤ n ∧ n ≤ k.base + k.len - k.pos) → keyNarrow k n = (⟨k.perm, k.pos, n, k.pos, 0⟩, 0) := fun h => by
      have : (k.base ≤ k.pos ∧ inR n 0 (k.base + k.len - k.pos) = true) := by rw [inR_iff]; exact h
      simp only [keyNarrow, hp, if_true, if_pos this, ht]
    have YES := Lib.hid yes; clear hp ht no yes
    rcases Int.lt_or_le n 0 with g1 | g1
    · have H := Lib.hid (NO.out (by omega))
      exact az5
    rcases Int.lt_or_le 400 n with g2 | g2
    · have H := Lib.hid (NO.out (by omega))
      exact az5
    rcases Int.lt_or_le k.pos k.base with g3 | g3
    · have H := Lib.hid (NO.out (by omega))
      exact az5
    rcases Int.lt_or_le (k.base + k.len) (k.pos + n) with g4 | g4
    · have H := Lib.hid (NO.out (by omega))
      exact az5
    · have H := Lib.hid (YES.out (by omega))
      exact az5
  · have h := r_KeyOp_no k n 1 hk (by omega) hp w
    exact h
end Go.Proofs.YthmpnnfejghhfaaGreatDoor
