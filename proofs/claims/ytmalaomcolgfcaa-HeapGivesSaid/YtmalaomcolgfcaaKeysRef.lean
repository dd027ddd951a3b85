/- The contracts of the references of package keys: they return the same plain functions. Conditions: the numbers of a key are numbers of 64 bits. -/
import Derived.Test.YtmalaomcolgfcaaKeysOps
namespace Go.Proofs.Ytmalaomcolgfcaa
open Go.RowKit
set_option linter.unusedVariables false
set_option linter.unusedSimpArgs false
set_option maxRecDepth 100000

/-- what KeyOp says: 0 Move, 1 Narrow, else Drop -/
def keyOp (k : Key) (n which : Int) : Key × Int := if which = 0 then keyMove k n else if which = 1 then keyNarrow k n else keyDrop k n

theorem two_pow_mono {a b : Nat} (h : a ≤ b) : (2 : Int) ^ a ≤ 2 ^ b := by
  rcases Nat.lt_or_eq_of_le h with h | h
  · exact Int.le_of_lt (Int.pow_lt_pow_of_lt (by decide) h)
  · rw [h]; exact Int.le_refl _
/-- the sum of the first m bits that both have -/
def bitsTo (x y : Int) : Nat → Int
  | 0 => 0
  | m + 1 => bitsTo x y m + (if x / 2 ^ m % 2 = 1 ∧ y / 2 ^ m % 2 = 1 then 2 ^ m else 0)
theorem bitsTo_lo (x y : Int) (m : Nat) : 0 ≤ bitsTo x y m ∧ bitsTo x y m < 2 ^ m := by
  induction m with
  | zero => simp [bitsTo]
  | succ m ih =>
    have hp : (0 : Int) < 2 ^ m := Int.pow_pos (by decide)
    have e : (2 : Int) ^ (m + 1) = 2 * 2 ^ m := by rw [Int.pow_succ, Int.mul_comm]
    unfold bitsTo
    split <;> omega
theorem bitsTo_bit (x y : Int) (m : Nat) : ∀ j : Nat, bitsTo x y m / 2 ^ j % 2 = 1 ↔ (j < m ∧ x / 2 ^ j % 2 = 1 ∧ y / 2 ^ j % 2 = 1) := by
  induction m with
  | zero => intro j; simp [bitsTo]
  | succ m ih =>
    intro j
    have hb := bitsTo_lo x y m
    have hp : (0 : Int) < 2 ^ m := Int.pow_pos (by decide)
    have hpj : (0 : Int) < 2 ^ j := Int.pow_pos (by decide)
    unfold bitsTo
    split
    · rename_i hx
      rcases Nat.lt_trichotomy j m with h | h | h
      · have e : (2 : Int) ^ m = 2 ^ j * (2 * 2 ^ (m - j - 1)) := by
          rw [← Int.mul_assoc, ← Int.pow_succ, ← Int.pow_add, show j + 1 + (m - j - 1) = m by omega]
        rw [e, Int.add_mul_ediv_left _ _ (by omega), Int.add_mul_emod_self_left, ih]
        constructor
        · rintro ⟨_, h2⟩; exact ⟨by omega, h2⟩
        · rintro ⟨_, h2⟩; exact ⟨h, h2⟩
      · subst h
        have : (bitsTo x y j + 2 ^ j) / 2 ^ j = 1 := by
          have := Int.add_mul_ediv_left (bitsTo x y j) 1 (show (2 : Int) ^ j ≠ 0 by omega)
          rw [Int.mul_one] at this
          rw [this, Int.ediv_eq_zero_of_lt hb.1 hb.2]; rfl
        rw [this]
        simp [hx]
      · have hlt : bitsTo x y m + 2 ^ m < 2 ^ j := by
          have : (2 : Int) ^ (m + 1) ≤ 2 ^ j := two_pow_mono (by omega)
          have e : (2 : Int) ^ (m + 1) = 2 * 2 ^ m := by rw [Int.pow_succ, Int.mul_comm]
          omega
        rw [Int.ediv_eq_zero_of_lt (by omega) hlt]
        constructor
        · intro h0; omega
        · rintro ⟨h0, _⟩; omega
    · rename_i hx
      rw [Int.add_zero, ih]
      constructor
      · rintro ⟨h1, h2⟩; exact ⟨by omega, h2⟩
      · rintro ⟨h1, h2⟩
        rcases Nat.lt_or_ge j m with h | h
        · exact ⟨h, h2⟩
        · obtain rfl : j = m := by omega
          exact absurd h2 hx
theorem bitsTo_and (x y : Int) (h0 : 0 ≤ x) (h1 : x ≤ 127) : bitsTo x y 7 = bits .and .i64 x y := by
  have hb := bitsTo_lo x y 7
  have e : bits .and .i64 x y = wrap64 ((BitVec.ofInt 64 x &&& BitVec.ofInt 64 y).toNat : Int) := by
    unfold bits; exact IntWalk.i64_left _
  have hv : BitVec.ofInt 64 (bitsTo x y 7) = BitVec.ofInt 64 x &&& BitVec.ofInt 64 y := by
    refine BitVec.eq_of_getLsbD_eq fun j hj => ?_
    rw [BitVec.getLsbD_and, ofInt_bit _ _ hj, ofInt_bit _ _ hj, ofInt_bit _ _ hj, Bool.eq_iff_iff]
    simp only [Bool.and_eq_true, decide_eq_true_iff, bitsTo_bit]
    constructor
    · rintro ⟨_, h2⟩; exact h2
    · intro h2
      refine ⟨?_, h2⟩
      rcases Nat.lt_or_ge j 7 with h | h
      · exact h
      · have : x / 2 ^ j = 0 := Int.ediv_eq_zero_of_lt h0 (by
          have : (2 : Int) ^ 7 ≤ 2 ^ j := two_pow_mono h
          omega)
        rw [this] at h2; omega
  rw [e, ← hv]
  have h2 : (BitVec.ofInt 64 (bitsTo x y 7)).toNat = (bitsTo x y 7).toNat := by
    rw [BitVec.toNat_ofInt]
    congr 1
    rw [Int.emod_eq_of_lt hb.1]
    have := hb.2
    omega
  rw [h2]
  have := hb.1; have := hb.2
  unfold wrap64
  omega

theorem plainE_no {k : Key} (h : keyOk k = false) : plainE k = 1 := by simp [plainE, h]
theorem plainE_tag {k : Key} (h : keyOk k = true) (ht : 0 < k.tag) : plainE k = 11 := by
  have : k.tag ≠ 0 := by omega
  simp [plainE, h, this]
theorem r_KeyOp_no (k : Key) (n which : Int) (hk : k.Wf) (hw : which = 0 ∨ which = 1 ∨ which = 2) (hp : plainE k ≠ 0) (w : World) :
    Calls Try.prog 25 #[.agg #[.int .i64 k.perm, .int .i64 k.base, .int .i64 k.len, .int .i64 k.pos, .int .i64 k.tag], .int .i64 n, .int .i64 which] w (Ret (.tuple #[.agg #[.int .i64 (keyOp k n which).1.perm, .int .i64 (keyOp k n which).1.base, .int .i64 (keyOp k n which).1.len, .int .i64 (keyOp k n which).1.pos, .int .i64 (keyOp k n which).1.tag], .int .i64 (keyOp k n which).2]) w) := by
  have HO := Lib.hid (show keyOp k n which = (Key.zero, plainE k) by
    unfold keyOp keyMove keyNarrow keyDrop
    simp only [if_neg hp]
    split <;> (try split) <;> rfl)
  clear hw
  cases ho : keyOk k
  · have H := Lib.hid (HO.out.trans (by rw [plainE_no ho]))
    have h0 := keyE_no ho
    clear hp HO
    go_enter Try.func25, Try.ntmps25
    go_wp2_with (first | (go_at_call 55; (with_reducible refine (r_KeyCheck _ hk _).mono ?_); intro e w1 hr; obtain ⟨rfl, hb, hc, hf, hz⟩ := hr.use; (try simp only [World.size_alloc, World.size_setCell, World.size_drew] at hz); have c0 := fun o => hc (w.heap.size) o (by go_size); have f0 := fun o => hf (w.heap.size) o (by go_size); have c1 := fun o => hc (w.heap.size + 1) o (by go_size); have f1 := fun o => hf (w.heap.size + 1) o (by go_size); clear hc hf; simp only [go_sem, *] at c0 f0 c1 f1) | (go_at_call 56; (with_reducible refine (r_outside _ _ _ _).mono ?_); rintro e w1 ⟨rfl, rfl⟩))
    ((try simp only [Exit.inBlock, Exit.then]); refine bodyPost_ret (by simp [results, Try.results25, go_sem, *]; try rfl) rfl ?_)
    exact Ret.key (q := (⟨_, _, _, _, _⟩, _)) H.out.symm (by (repeat' (first | (with_reducible exact Below.refl _ _) | (with_reducible assumption) | (with_reducible refine Below.alloc ?_ ?_ _) | (with_reducible refine Below.drew ?_) | (with_reducible refine Below.setCell ?_ ?_ _) | (refine Below.trans ?_ (Below.mono (by with_reducible assumption) ?_)) | go_size)))
  · have h0 := keyE_ok ho
    obtain ⟨⟨b1, b2⟩, ⟨l1, l2⟩, ⟨p1, p2⟩, ⟨a1, a2⟩, ⟨t1, t2⟩⟩ := keyOk_iff.1 ho
    have ht : 0 < k.tag := by
      have : ¬ (keyOk k = true ∧ k.tag = 0) := fun h => hp (plainE_zero.2 h)
      have : k.tag ≠ 0 := fun h => this ⟨ho, h⟩
      omega
    have H := Lib.hid (HO.out.trans (by rw [plainE_tag ho ht]))
    clear hp HO
    go_enter Try.func25, Try.ntmps25
    go_wp2_with (first | (go_at_call 55; (with_reducible refine (r_KeyCheck _ hk _).mono ?_); intro e w1 hr; obtain ⟨rfl, hb, hc, hf, hz⟩ := hr.use; (try simp only [World.size_alloc, World.size_setCell, World.size_drew] at hz); have c0 := fun o => hc (w.heap.size) o (by go_size); have f0 := fun o => hf (w.heap.size) o (by go_size); have c1 := fun o => hc (w.heap.size + 1) o (by go_size); have f1 := fun o => hf (w.heap.size + 1) o (by go_size); clear hc hf; simp only [go_sem, *] at c0 f0 c1 f1) | (go_at_call 56; (with_reducible refine (r_outside _ _ _ _).mono ?_); rintro e w1 ⟨rfl, rfl⟩))
    ((try simp only [Exit.inBlock, Exit.then]); refine bodyPost_ret (by simp [results, Try.results25, go_sem, *]; try rfl) rfl ?_)
    exact Ret.key (q := (⟨_, _, _, _, _⟩, _)) H.out.symm (by (repeat' (first | (with_reducible exact Below.refl _ _) | (with_reducible assumption) | (with_reducible refine Below.alloc ?_ ?_ _) | (with_reducible refine Below.drew ?_) | (with_reducible refine Below.setCell ?_ ?_ _) | (refine Below.trans ?_ (Below.mono (by with_reducible assumption) ?_)) | go_size)))
theorem r_KeyOp_drop (k : Key) (n : Int) (hk : k.Wf) (w : World) :
    Calls Try.prog 25 #[.agg #[.int .i64 k.perm, .int .i64 k.base, .int .i64 k.len, .int .i64 k.pos, .int .i64 k.tag], .int .i64 n, .int .i64 2] w (Ret (.tuple #[.agg #[.int .i64 (keyDrop k n).1.perm, .int .i64 (keyDrop k n).1.base, .int .i64 (keyDrop k n).1.len, .int .i64 (keyDrop k n).1.pos, .int .i64 (keyDrop k n).1.tag], .int .i64 (keyDrop k n).2]) w) := by
  by_cases hp : plainE k = 0
  · obtain ⟨ho, ht⟩ := plainE_zero.1 hp
    obtain ⟨⟨b1, b2⟩, ⟨l1, l2⟩, ⟨p1, p2⟩, ⟨a1, a2⟩, ⟨t1, t2⟩⟩ := keyOk_iff.1 ho
    have H := Lib.hid (show keyDrop k n = ({ k with perm := bitsTo k.perm n 7 }, 0) by rw [bitsTo_and _ _ p1 p2]; simp [keyDrop, hp])
    have h0 := keyE_ok ho
    have ht' : k.tag ≤ 0 := by omega
    have hone := and_one
    clear hp ht
    go_enter Try.func25, Try.ntmps25
    go_wp2_with (first | (go_at_call 55; (with_reducible refine (r_KeyCheck _ hk _).mono ?_); intro e w1 hr; obtain ⟨rfl, hb, hc, hf, hz⟩ := hr.use; (try simp only [World.size_alloc, World.size_setCell, World.size_drew] at hz); have c0 := fun o => hc (w.heap.size) o (by go_size); have f0 := fun o => hf (w.heap.size) o (by go_size); have c1 := fun o => hc (w.heap.size + 1) o (by go_size); have f1 := fun o => hf (w.heap.size + 1) o (by go_size); clear hc hf; simp only [go_sem, *] at c0 f0 c1 f1) | (go_at_call 56; (with_reducible refine (r_outside _ _ _ _).mono ?_); rintro e w1 ⟨rfl, rfl⟩))
    go_loop [9, 81] (fun p i => ∃ m : Nat, m ≤ 7 ∧ i = .int .i64 m ∧ p = .int .i64 (bitsTo k.perm n m)) (fun _ i => 7 - (intOf i).toNat)
    case atStart => exact ⟨0, by omega, rfl, rfl⟩
    case round =>
      obtain ⟨m, hm, rfl, rfl⟩ := hrel
      obtain ⟨q1, q2⟩ := bitsTo_lo k.perm n m
      have q3 : (2 : Int) ^ m ≤ 2 ^ 7 := two_pow_mono hm
      rcases Nat.lt_or_ge m 7 with hlt | hge
      · have HN := Lib.hid (show bitsTo k.perm n (m + 1) = bitsTo k.perm n m + (if k.perm / 2 ^ m % 2 = 1 ∧ n / 2 ^ m % 2 = 1 then 2 ^ m else 0) from rfl)
        by_cases hx : k.perm / 2 ^ m % 2 = 1
        · have hx' : (k.perm / 2 ^ m % 2 == 1) = true := by simp [hx]
          by_cases hy : n / 2 ^ m % 2 = 1
          · have hy' : (n / 2 ^ m % 2 == 1) = true := by simp [hy]
            have HS := Lib.hid (HN.out.trans (by rw [if_pos ⟨hx, hy⟩]))
            clear hx hy HN
            go_wp2
            go_round
            case rel => exact ⟨m + 1, by omega, by go_num, by rw [HS.out]⟩
            case measure => simp [intOf]; omega
          · have hy' : (n / 2 ^ m % 2 == 1) = false := by simp [hy]
            have HS := Lib.hid (HN.out.trans (by rw [if_neg (by rintro ⟨_, h⟩; exact hy h), Int.add_zero]))
            clear hx hy HN
            go_wp2
            go_round
            case rel => exact ⟨m + 1, by omega, by go_num, by rw [HS.out]⟩
            case measure => simp [intOf]; omega
        · have hx' : (k.perm / 2 ^ m % 2 == 1) = false := by simp [hx]
          have HS := Lib.hid (HN.out.trans (by rw [if_neg (by rintro ⟨h, _⟩; exact hx h), Int.add_zero]))
          clear hx HN
          go_wp2
          go_round
          case rel => exact ⟨m + 1, by omega, by go_num, by rw [HS.out]⟩
          case measure => simp [intOf]; omega
      · obtain rfl : m = 7 := by omega
        go_wp2
        ((try simp only [Exit.inBlock, Exit.then]); refine bodyPost_ret (by simp [results, Try.results25, go_sem, *]; try rfl) rfl ?_)
        exact Ret.key (q := (⟨_, _, _, _, _⟩, _)) H.out.symm (by (repeat' (first | (with_reducible exact Below.refl _ _) | (with_reducible assumption) | (with_reducible refine Below.alloc ?_ ?_ _) | (with_reducible refine Below.drew ?_) | (with_reducible refine Below.setCell ?_ ?_ _) | (refine Below.trans ?_ (Below.mono (by with_reducible assumption) ?_)) | go_size)))
  · have h := r_KeyOp_no k n 2 hk (by omega) hp w
    exact h
end Go.Proofs.Ytmalaomcolgfcaa
