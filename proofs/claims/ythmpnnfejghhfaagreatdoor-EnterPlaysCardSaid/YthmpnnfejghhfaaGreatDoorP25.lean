/- What the parts say: The reference's KeySeal, sealing and opening: it returns the same plain functions. Conditions: the numbers are numbers of 64 bits. -/
import Derived.Test.YthmpnnfejghhfaaGreatDoorP04
set_option linter.unusedVariables false
set_option linter.unusedSimpArgs false
namespace Go.Proofs.YthmpnnfejghhfaaGreatDoor
theorem az1 {P : Prop} (h : P := by
  go_enter Tryz.func63, Tryz.ntmps63
  go_wp2_with (first | (go_at_call 83; (with_reducible refine (r_KeyCheck _ (by first | exact hk | exact hy) _).mono ?_); refine am116 ?_; intro w1 hb hz z0 z1 z2 c0 f0 c1 f1 c2 f2) | (go_at_call 85; (with_reducible refine (r_Covers _ _ hy hy.pos _).mono ?_); refine am117 ?_; intro w2 hb hz z0 z1 z2 c0 f0 c1 f1 c2 f2) | (go_at_call 84; (with_reducible refine (r_Within _ _ _).mono ?_); rintro e w1 ⟨rfl, rfl⟩) | (go_at_call 38; (with_reducible refine (r_outside _ _ _ _).mono ?_); rintro e w1 ⟨rfl, rfl⟩))
  ((try simp only [Exit.inBlock, Exit.then]); refine bodyPost_ret (by simp [results, Tryz.results63, go_sem, *]; try rfl) rfl ?_)
  exact Ret.key (q := (⟨_, _, _, _, _⟩, _)) H.out.symm bel) : P := h
open Go.RowKit
set_option maxRecDepth 100000
set_option maxHeartbeats 4000000 in
theorem r_KeySeal_seal (k b : Key) (hk : k.Wf) (hy : b.Wf) (w : World) :
    Calls Tryz.prog 63 #[.agg #[.int .i64 k.perm, .int .i64 k.base, .int .i64 k.len, .int .i64 k.pos, .int .i64 k.tag], .agg #[.int .i64 b.perm, .int .i64 b.base, .int .i64 b.len, .int .i64 b.pos, .int .i64 b.tag], .bool true] w (Ret (.tuple #[.agg #[.int .i64 (keySeal k b).1.perm, .int .i64 (keySeal k b).1.base, .int .i64 (keySeal k b).1.len, .int .i64 (keySeal k b).1.pos, .int .i64 (keySeal k b).1.tag], .int .i64 (keySeal k b).2]) w) := by
  cases h1 : keyOk k
  · have H := Lib.hid (show keySeal k b = (Key.zero, 1) by simp [keySeal, bothE, h1]); have g1 := keyE_no h1; clear h1
    exact az1
  cases h2 : keyOk b
  · have H := Lib.hid (show keySeal k b = (Key.zero, 1) by simp [keySeal, bothE, h1, keyE_no h2]); have g1 := keyE_ok h1; have g2 := keyE_no h2; clear h1 h2
    exact az1
  have hbo : bothE k b = 0 := (by simp [bothE, h1, keyE_ok h2]); obtain ⟨_, _, _, _, ⟨t1, t2⟩⟩ := keyOk_iff.1 h1; obtain ⟨_, _, _, _, ⟨s1, s2⟩⟩ := keyOk_iff.1 h2; have g1 := keyE_ok h1; have g2 := keyE_ok h2
  rcases Int.lt_or_le 0 k.tag with h3 | h3
  · have H := Lib.hid (show keySeal k b = (Key.zero, 11) by simp [keySeal, hbo, plainE_tag h1 h3]); clear hbo h1 h2
    exact az1
  have hp0 : plainE k = 0 := plainE_zero.2 ⟨h1, by omega⟩
  have base : ∀ r, (if mayE b 32 = 0 then (if inR b.pos 1 63 = true then (({ k with tag := b.pos } : Key), (0 : Int)) else (Key.zero, 13)) else (Key.zero, mayE b 32)) = r → keySeal k b = r := fun r hr => by rw [← hr]; simp [keySeal, hbo, hp0]
  have BASE := Lib.hid base; clear hbo h1 h2 hp0 base
  rcases Int.lt_or_le 0 b.tag with h4 | h4
  · have H := Lib.hid (BASE.out (Key.zero, 11) (by simp [mayE, show b.tag ≠ 0 by omega]))
    exact az1
  have ht : (b.tag == 0) = true := by rw [beq_iff_eq]; omega
  have HT := Lib.hid ht; clear ht; have hs0 : subB 32 b.perm = hasP 32 b.perm := subB_pow b.perm 5 (by decide)
  cases h5 : hasP 32 b.perm
  · have H := Lib.hid (BASE.out (Key.zero, 12) (by simp [mayE, HT.out, h5]))
    rw [h5] at hs0
    clear h5
    exact az1
  have H5 := Lib.hid h5
  rw [h5] at hs0
  clear h5
  cases h6 : cov b b.pos
  · have H := Lib.hid (BASE.out (Key.zero, 13) (by simp [mayE, HT.out, H5.out, h6]))
    exact az1
  cases h7 : inR b.pos 1 63
  · have H := Lib.hid (BASE.out (Key.zero, 13) (by simp [mayE, HT.out, H5.out, h6, h7]))
    exact az1
  · have H := Lib.hid (BASE.out (⟨k.perm, k.base, k.len, k.pos, b.pos⟩, 0) (by simp [mayE, HT.out, H5.out, h6, h7]))
    exact az1
set_option maxHeartbeats 4000000 in
theorem r_KeySeal_open (k b : Key) (hk : k.Wf) (hy : b.Wf) (w : World) :
    Calls Tryz.prog 63 #[.agg #[.int .i64 k.perm, .int .i64 k.base, .int .i64 k.len, .int .i64 k.pos, .int .i64 k.tag], .agg #[.int .i64 b.perm, .int .i64 b.base, .int .i64 b.len, .int .i64 b.pos, .int .i64 b.tag], .bool false] w (Ret (.tuple #[.agg #[.int .i64 (keyOpen k b).1.perm, .int .i64 (keyOpen k b).1.base, .int .i64 (keyOpen k b).1.len, .int .i64 (keyOpen k b).1.pos, .int .i64 (keyOpen k b).1.tag], .int .i64 (keyOpen k b).2]) w) := by
  cases h1 : keyOk k
  · have H := Lib.hid (show keyOpen k b = (Key.zero, 1) by simp [keyOpen, bothE, h1]); have g1 := keyE_no h1; clear h1
    exact az1
  cases h2 : keyOk b
  · have H := Lib.hid (show keyOpen k b = (Key.zero, 1) by simp [keyOpen, bothE, h1, keyE_no h2]); have g1 := keyE_ok h1; have g2 := keyE_no h2; clear h1 h2
    exact az1
  have hbo : bothE k b = 0 := (by simp [bothE, h1, keyE_ok h2]); obtain ⟨_, _, _, _, ⟨t1, t2⟩⟩ := keyOk_iff.1 h1; obtain ⟨_, _, _, _, ⟨s1, s2⟩⟩ := keyOk_iff.1 h2; have g1 := keyE_ok h1; have g2 := keyE_ok h2
  rcases Int.lt_or_le k.tag 1 with h3 | h3
  · have H := Lib.hid (show keyOpen k b = (Key.zero, 11) by simp [keyOpen, hbo, show k.tag = 0 by omega]); clear hbo h1 h2
    exact az1
  have hp0 : k.tag ≠ 0 := (by omega)
  have base : ∀ r, (if mayE b 64 = 0 then (if k.tag = b.pos then (({ k with tag := 0 } : Key), (0 : Int)) else (Key.zero, 11)) else (Key.zero, mayE b 64)) = r → keyOpen k b = r := fun r hr => by rw [← hr]; simp [keyOpen, hbo, hp0]
  have BASE := Lib.hid base; clear hbo h1 h2 hp0 base
  rcases Int.lt_or_le 0 b.tag with h4 | h4
  · have H := Lib.hid (BASE.out (Key.zero, 11) (by simp [mayE, show b.tag ≠ 0 by omega]))
    exact az1
  have ht : (b.tag == 0) = true := by rw [beq_iff_eq]; omega
  have HT := Lib.hid ht; clear ht; have hs0 : subB 64 b.perm = hasP 64 b.perm := subB_pow b.perm 6 (by decide)
  cases h5 : hasP 64 b.perm
  · have H := Lib.hid (BASE.out (Key.zero, 12) (by simp [mayE, HT.out, h5]))
    rw [h5] at hs0
    clear h5
    exact az1
  have H5 := Lib.hid h5
  rw [h5] at hs0
  clear h5
  cases h6 : cov b b.pos
  · have H := Lib.hid (BASE.out (Key.zero, 13) (by simp [mayE, HT.out, H5.out, h6]))
    exact az1
  cases h7 : (b.pos != k.tag)
  · have h8 : k.tag = b.pos := (by simpa using (bne_eq_false_iff_eq.1 h7).symm); have H := Lib.hid (BASE.out (⟨k.perm, k.base, k.len, k.pos, 0⟩, 0) (by simp [mayE, HT.out, H5.out, h6, h8])); clear h8
    exact az1
  · have h8 : ¬k.tag = b.pos := fun h => (bne_iff_ne.1 h7) h.symm; have H := Lib.hid (BASE.out (Key.zero, 11) (by simp [mayE, HT.out, H5.out, h6, h8])); clear h8
    exact az1
end Go.Proofs.YthmpnnfejghhfaaGreatDoor
