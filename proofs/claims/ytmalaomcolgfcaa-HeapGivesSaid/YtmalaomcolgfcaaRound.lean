/- The contracts of package round and of its references: each returns a plain function of its values. Conditions: none. -/
import Derived.Test.YtmalaomcolgfcaaBits
import Derived.Test.YtmalaomcolgfcaaKept
namespace Go.Proofs.Ytmalaomcolgfcaa
open Go.RowKit
set_option linter.unusedVariables false
set_option linter.unusedSimpArgs false
set_option maxRecDepth 100000

/-- is it a range -/
def isRg (b n : Int) : Bool := inR b 0 65535 && inR n 0 (65536 - b)
def dn (e : Nat) (x : Int) : Int := x / 2 ^ e * 2 ^ e
def up (e : Nat) (x : Int) : Int := (x + 2 ^ e - 1) / 2 ^ e * 2 ^ e
def sz (e : Nat) (b n : Int) : Int := up e (b + n) - dn e b
/-- the range around fits by the exponent -/
def okE (b n : Int) (e : Nat) : Prop := sz e b n ≤ 15 * 2 ^ e
instance (b n : Int) (e : Nat) : Decidable (okE b n e) := Int.decLe _ _
def lstGo (b n : Int) : Nat → Nat → Nat
  | 0, e => e
  | k + 1, e => if okE b n e then e else lstGo b n k (e + 1)
/-- the least exponent by which the range around fits -/
def lst (b n : Int) : Nat := lstGo b n 13 0

theorem pow_ge (e : Nat) : (1 : Int) ≤ 2 ^ e := Int.pow_pos (by decide)
theorem pow_le16 {e : Nat} (h : e ≤ 16) : (2 : Int) ^ e ≤ 65536 := by
  have h16 : (2 : Int) ^ 16 = 65536 := by rw [show (16 : Nat) = 8 + 8 from rfl, Int.pow_add]; decide
  rcases Nat.lt_or_eq_of_le h with h | h
  · have := Int.pow_lt_pow_of_lt (a := 2) (by decide) h
    rw [h16] at this
    omega
  · subst h; rw [h16]; exact Int.le_refl _
theorem dn_fact (e : Nat) (x : Int) : dn e x ≤ x ∧ x < dn e x + 2 ^ e := by
  have h := pow_ge e
  have h1 := Int.mul_ediv_add_emod x (2 ^ e)
  have h2 := Int.emod_nonneg x (show (2 : Int) ^ e ≠ 0 by omega)
  have h3 := Int.emod_lt_of_pos x (show (0 : Int) < 2 ^ e by omega)
  unfold dn
  rw [Int.mul_comm] at h1
  omega
theorem dn_nonneg (e : Nat) {x : Int} (hx : 0 ≤ x) : 0 ≤ dn e x := by
  have h := pow_ge e
  unfold dn
  exact Int.mul_nonneg (Int.ediv_nonneg hx (by omega)) (by omega)
theorem up_fact (e : Nat) (x : Int) : x ≤ up e x ∧ up e x < x + 2 ^ e := by
  have h := dn_fact e (x + 2 ^ e - 1)
  have : up e x = dn e (x + 2 ^ e - 1) := rfl
  omega
theorem isRg_iff {b n : Int} : isRg b n = true ↔ (0 ≤ b ∧ b ≤ 65535) ∧ (0 ≤ n ∧ n ≤ 65536 - b) := by
  simp [isRg, inR_iff]
theorem okE13 {b n : Int} (h : isRg b n = true) : okE b n 13 := by
  obtain ⟨hb, hn⟩ := isRg_iff.1 h
  unfold okE sz up dn
  have : (2 : Int) ^ 13 = 8192 := by decide
  rw [this]
  omega
theorem lstGo_spec {b n : Int} (h : isRg b n = true) : ∀ (k e : Nat), k + e = 13 → (∀ j, j < e → ¬okE b n j) → okE b n (lstGo b n k e) ∧ (∀ j, j < lstGo b n k e → ¬okE b n j) ∧ lstGo b n k e ≤ 13 := by
  intro k
  induction k with
  | zero => intro e he hj; obtain rfl : e = 13 := by omega
            exact ⟨okE13 h, hj, by simp [lstGo]⟩
  | succ k ih =>
    intro e he hj
    unfold lstGo
    by_cases hk : okE b n e
    · rw [if_pos hk]; exact ⟨hk, hj, by omega⟩
    · rw [if_neg hk]
      refine ih (e + 1) (by omega) fun j hlt => ?_
      rcases Nat.lt_or_ge j e with hl | hl
      · exact hj j hl
      · obtain rfl : j = e := by omega
        exact hk
theorem lst_spec {b n : Int} (h : isRg b n = true) : okE b n (lst b n) ∧ (∀ j, j < lst b n → ¬okE b n j) ∧ lst b n ≤ 13 := lstGo_spec h 13 0 rfl fun j hj => by omega
theorem lst_uniq {b n : Int} {e : Nat} (h : isRg b n = true) (h1 : okE b n e) (h2 : ∀ j, j < e → ¬okE b n j) : lst b n = e := by
  obtain ⟨a, c, _⟩ := lst_spec h
  rcases Nat.lt_trichotomy (lst b n) e with hl | hl | hl
  · exact absurd a (h2 _ hl)
  · exact hl
  · exact absurd h1 (c _ hl)
/-- what Out returns -/
def outF (b n : Int) : Int × Int × Int := if isRg b n = true then (dn (lst b n) b, sz (lst b n) b n, 0) else (0, 0, 1)
/-- what Fits returns -/
def fitsF (b n : Int) : Bool := isRg b n && (dn (lst b n) b == b && sz (lst b n) b n == n)
/-- what fitsBy of the reference returns -/
def fitBy (b n : Int) (e : Nat) : Bool := (b % 2 ^ e == 0) && ((n % 2 ^ e == 0) && decide (n ≤ 15 * 2 ^ e))
theorem dn_self {e : Nat} {b : Int} : dn e b = b ↔ b % 2 ^ e = 0 := by
  have h1 := Int.mul_ediv_add_emod b (2 ^ e)
  rw [Int.mul_comm] at h1
  unfold dn
  omega
theorem dn_mod (e : Nat) (b : Int) : dn e b % 2 ^ e = 0 := by simp [dn]
theorem up_mod (e : Nat) (b : Int) : up e b % 2 ^ e = 0 := by simp [up]
theorem sz_mod (e : Nat) (b n : Int) : sz e b n % 2 ^ e = 0 := by
  unfold sz
  rw [Int.sub_emod, dn_mod, up_mod]; simp
theorem up_self {e : Nat} {b : Int} (h : b % 2 ^ e = 0) : up e b = b := by
  have hu := up_fact e b
  have hm := up_mod e b
  have hp := pow_ge e
  have h3 : (up e b - b) % 2 ^ e = 0 := by rw [Int.sub_emod, h, hm]; simp
  rw [Int.emod_eq_of_lt (by omega) (by omega)] at h3
  omega
theorem fitBy_iff {b n : Int} {e : Nat} : fitBy b n e = true ↔ b % 2 ^ e = 0 ∧ n % 2 ^ e = 0 ∧ n ≤ 15 * 2 ^ e := by simp [fitBy]
theorem fitBy_of {b n : Int} {e : Nat} (h : fitBy b n e = true) : dn e b = b ∧ sz e b n = n ∧ okE b n e := by
  obtain ⟨h1, h2, h3⟩ := fitBy_iff.1 h
  have h4 : (b + n) % 2 ^ e = 0 := by rw [Int.add_emod, h1, h2]; simp
  have h5 : sz e b n = n := by unfold sz; rw [up_self h4, dn_self.2 h1]; omega
  exact ⟨dn_self.2 h1, h5, by unfold okE; omega⟩
theorem fitBy_to {b n : Int} {e : Nat} (h1 : dn e b = b) (h2 : sz e b n = n) (h3 : okE b n e) : fitBy b n e = true := by
  have := sz_mod e b n
  unfold okE at h3
  rw [h2] at this h3
  exact fitBy_iff.2 ⟨dn_self.1 h1, this, h3⟩
theorem mod_less {j e : Nat} (h : j ≤ e) {x : Int} (hx : x % 2 ^ e = 0) : x % 2 ^ j = 0 := by
  obtain ⟨k, hk⟩ := Int.dvd_of_emod_eq_zero hx
  obtain ⟨d, rfl⟩ := Nat.exists_eq_add_of_le h
  exact Int.emod_eq_zero_of_dvd ⟨2 ^ d * k, by rw [hk, Int.pow_add, Int.mul_assoc]⟩
/-- a range fits where some exponent does; the least one is the first that does -/
theorem fits_some {b n : Int} {e : Nat} (hr : isRg b n = true) (h : fitBy b n e = true) : fitsF b n = true ∧ lst b n ≤ e := by
  obtain ⟨l1, l2, l3⟩ := lst_spec hr
  obtain ⟨f1, f2, f3⟩ := fitBy_of h
  have hle : lst b n ≤ e := by
    rcases Nat.lt_or_ge e (lst b n) with hl | hl
    · exact absurd f3 (l2 _ hl)
    · exact hl
  obtain ⟨g1, g2, g3⟩ := fitBy_iff.1 h
  have a1 := mod_less hle g1
  have a2 := mod_less hle g2
  have a4 : (b + n) % 2 ^ lst b n = 0 := by rw [Int.add_emod, a1, a2]; simp
  have a5 : sz (lst b n) b n = n := by unfold sz; rw [up_self a4, dn_self.2 a1]; omega
  exact ⟨by simp [fitsF, hr, dn_self.2 a1, a5], hle⟩
theorem fits_lst {b n : Int} (h : fitsF b n = true) : isRg b n = true ∧ fitBy b n (lst b n) = true := by
  simp only [fitsF, Bool.and_eq_true, beq_iff_eq] at h
  exact ⟨h.1, fitBy_to h.2.1 h.2.2 (lst_spec h.1).1⟩
theorem wr64 {x : Int} (h : -9223372036854775808 ≤ x ∧ x ≤ 9223372036854775807) : wrap64 x = x := by unfold wrap64; omega
theorem fits_none {b n : Int} (h : isRg b n = true) (hn : ∀ e, e < 17 → fitBy b n e = false) : fitsF b n = false := by
  cases hf : fitsF b n
  · rfl
  · have := (fits_lst hf).2
    rw [hn _ (by have := (lst_spec h).2.2; omega)] at this
    cases this

theorem c_round_by (e : Nat) (b n : Int) (he : e ≤ 16) (hb : 0 ≤ b ∧ b ≤ 65536) (hn : 0 ≤ n ∧ n ≤ 65536) (w : World) :
    Calls Try.prog 76 #[.int .i64 e, .int .i64 b, .int .i64 n] w (Ret (.tuple #[.int .i64 (dn e b), .int .i64 (sz e b n)]) w) := by
  have p1 := pow_ge e
  have p2 := pow_le16 he
  have d1 := dn_fact e b
  have d0 := dn_nonneg e hb.1
  have u1 := up_fact e (b + n)
  have HD := Lib.hid (show dn e b = b / 2 ^ e * 2 ^ e from rfl)
  have HU := Lib.hid (show up e (b + n) = (b + n + 2 ^ e - 1) / 2 ^ e * 2 ^ e from rfl)
  have HS := Lib.hid (show sz e b n = up e (b + n) - dn e b from rfl)
  go_enter Try.func76, Try.ntmps76
  go_wp2
  have e1 : wrap64 (b / 2 ^ e * 2 ^ e) = dn e b := by rw [← HD.out, wr64 (by omega)]
  have e2 : wrap64 (2 ^ e) = 2 ^ e := wr64 (by omega)
  have e3 : wrap64 (b + n + 2 ^ e) = b + n + 2 ^ e := wr64 (by omega)
  have e4 : wrap64 (b + n + 2 ^ e - 1) = b + n + 2 ^ e - 1 := wr64 (by omega)
  have e5 : wrap64 ((b + n + 2 ^ e - 1) / 2 ^ e * 2 ^ e) = up e (b + n) := by rw [← HU.out, wr64 (by omega)]
  have e6 : wrap64 (up e (b + n) - dn e b) = sz e b n := by rw [← HS.out, wr64 (by rw [HS.out]; omega)]
  simp only [e1, e2, e3, e4, e5, e6]
  go_returns
  exact Ret.mk rfl (by (repeat' (first | (with_reducible exact Below.refl _ _) | (with_reducible assumption) | (with_reducible refine Below.alloc ?_ ?_ _) | (with_reducible refine Below.drew ?_) | (with_reducible refine Below.setCell ?_ ?_ _) | (refine Below.trans ?_ (Below.mono (by with_reducible assumption) ?_)) | go_size)))
theorem c_round_isRange (b n : Int) (w : World) :
    Calls Try.prog 48 #[.int .i64 b, .int .i64 n] w (Ret (.bool (isRg b n)) w) := by
  rcases Int.lt_or_le b 0 with h1 | h1
  · have H := Lib.hid (show isRg b n = false by rw [Bool.eq_false_iff, Ne, isRg_iff]; omega)
    go_enter Try.func48, Try.ntmps48
    go_wp2
    go_returns
    exact Ret.bool H.out.symm (by (repeat' (first | (with_reducible exact Below.refl _ _) | (with_reducible assumption) | (with_reducible refine Below.alloc ?_ ?_ _) | (with_reducible refine Below.drew ?_) | (with_reducible refine Below.setCell ?_ ?_ _) | (refine Below.trans ?_ (Below.mono (by with_reducible assumption) ?_)) | go_size)))
  · rcases Int.lt_or_le b 65536 with h2 | h2
    · have hs : wrap64 (65536 - b) = 65536 - b := wr64 (by omega)
      by_cases hn : 0 ≤ n ∧ n ≤ 65536 - b
      · have H := Lib.hid (show isRg b n = true by rw [isRg_iff]; omega)
        have h3 := hn.1
        have h4 := hn.2
        clear hn
        go_enter Try.func48, Try.ntmps48
        go_wp2
        go_returns
        exact Ret.bool H.out.symm (by (repeat' (first | (with_reducible exact Below.refl _ _) | (with_reducible assumption) | (with_reducible refine Below.alloc ?_ ?_ _) | (with_reducible refine Below.drew ?_) | (with_reducible refine Below.setCell ?_ ?_ _) | (refine Below.trans ?_ (Below.mono (by with_reducible assumption) ?_)) | go_size)))
      · have H := Lib.hid (show isRg b n = false by rw [Bool.eq_false_iff, Ne, isRg_iff]; omega)
        have H2 := Lib.hid hn
        clear hn
        rcases Int.lt_or_le n 0 with h3 | h3
        all_goals
          go_enter Try.func48, Try.ntmps48
          go_wp2
          go_returns
          first
            | exact Ret.bool H.out.symm (by (repeat' (first | (with_reducible exact Below.refl _ _) | (with_reducible assumption) | (with_reducible refine Below.alloc ?_ ?_ _) | (with_reducible refine Below.drew ?_) | (with_reducible refine Below.setCell ?_ ?_ _) | (refine Below.trans ?_ (Below.mono (by with_reducible assumption) ?_)) | go_size)))
            | exact Ret.bool (by rw [H.out]; have := H2.out; simp; omega) (by (repeat' (first | (with_reducible exact Below.refl _ _) | (with_reducible assumption) | (with_reducible refine Below.alloc ?_ ?_ _) | (with_reducible refine Below.drew ?_) | (with_reducible refine Below.setCell ?_ ?_ _) | (refine Below.trans ?_ (Below.mono (by with_reducible assumption) ?_)) | go_size)))
    · have H := Lib.hid (show isRg b n = false by rw [Bool.eq_false_iff, Ne, isRg_iff]; omega)
      go_enter Try.func48, Try.ntmps48
      go_wp2
      go_returns
      exact Ret.bool H.out.symm (by (repeat' (first | (with_reducible exact Below.refl _ _) | (with_reducible assumption) | (with_reducible refine Below.alloc ?_ ?_ _) | (with_reducible refine Below.drew ?_) | (with_reducible refine Below.setCell ?_ ?_ _) | (refine Below.trans ?_ (Below.mono (by with_reducible assumption) ?_)) | go_size)))
theorem c_round_least (b n : Int) (h : isRg b n = true) (w : World) :
    Calls Try.prog 49 #[.int .i64 b, .int .i64 n] w (Ret (.int .i64 (lst b n)) w) := by
  obtain ⟨hb, hn⟩ := isRg_iff.1 h
  have HR := Lib.hid h
  clear h
  go_enter Try.func49, Try.ntmps49
  go_wp2
  go_loopw [5] (fun v wr => ∃ e : Nat, v = .int .i64 e ∧ e ≤ 13 ∧ (∀ j, j < e → ¬okE b n j) ∧ Below w.heap.size w wr) (fun v _ => (13 - intOf v).toNat)
  case atStart => exact ⟨0, rfl, by omega, fun j hj => by omega, by (repeat' (first | (with_reducible exact Below.refl _ _) | (with_reducible assumption) | (with_reducible refine Below.alloc ?_ ?_ _) | (with_reducible refine Below.drew ?_) | (with_reducible refine Below.setCell ?_ ?_ _) | (refine Below.trans ?_ (Below.mono (by with_reducible assumption) ?_)) | go_size))⟩
  case round =>
    obtain ⟨e, rfl, he, hj, hbw⟩ := hrel
    have hbz := hbw.size
    have HJ := Lib.hid hj
    clear hj
    have p1 := pow_ge e
    have p2 := pow_le16 (e := e) (by omega)
    have e15 : wrap64 (15 * 2 ^ e) = 15 * 2 ^ e := wr64 (by omega)
    by_cases hk : sz e b n ≤ 15 * 2 ^ e
    · have H := Lib.hid (lst_uniq HR.out hk HJ.out)
      go_wp2_with (go_at_call 76; (with_reducible refine (c_round_by e b n (by omega) (by omega) (by omega) _).mono ?_); intro e w1 hr; obtain ⟨rfl, hb, hc, hf, hz⟩ := hr.use; (try simp only [World.size_alloc, World.size_setCell, World.size_drew] at hz))
      go_returns
      exact Ret.int (by rw [H.out]) (by (repeat' (first | (with_reducible exact Below.refl _ _) | (with_reducible assumption) | (with_reducible refine Below.alloc ?_ ?_ _) | (with_reducible refine Below.drew ?_) | (with_reducible refine Below.setCell ?_ ?_ _) | (refine Below.trans ?_ (Below.mono (by with_reducible assumption) ?_)) | go_size)))
    · have hlt : e < 13 := by
        rcases Nat.lt_or_ge e 13 with h | h
        · exact h
        · obtain rfl : e = 13 := by omega
          exact absurd (okE13 HR.out) hk
      have HK := Lib.hid hk
      have hk' : decide (sz e b n ≤ 15 * 2 ^ e) = false := decide_eq_false hk
      clear hk
      go_wp2_with (go_at_call 76; (with_reducible refine (c_round_by e b n (by omega) (by omega) (by omega) _).mono ?_); intro e w1 hr; obtain ⟨rfl, hb, hc, hf, hz⟩ := hr.use; (try simp only [World.size_alloc, World.size_setCell, World.size_drew] at hz))
      go_roundw
      case rel =>
        refine ⟨e + 1, by go_num, by omega, fun j hj => ?_, by (repeat' (first | (with_reducible exact Below.refl _ _) | (with_reducible assumption) | (with_reducible refine Below.alloc ?_ ?_ _) | (with_reducible refine Below.drew ?_) | (with_reducible refine Below.setCell ?_ ?_ _) | (refine Below.trans ?_ (Below.mono (by with_reducible assumption) ?_)) | go_size))⟩
        rcases Nat.lt_or_ge j e with hl | hl
        · exact HJ.out j hl
        · obtain rfl : j = e := by omega
          exact fun h => by
            have := HK.out
            unfold okE at h
            omega
      case measure => simp [intOf]; omega
theorem c_round_Out (b n : Int) (w : World) :
    Calls Try.prog 52 #[.int .i64 b, .int .i64 n] w (Ret (.tuple #[.int .i64 (outF b n).1, .int .i64 (outF b n).2.1, .int .i64 (outF b n).2.2]) w) := by
  cases h : isRg b n
  · have H := Lib.hid (show outF b n = (0, 0, 1) by simp [outF, h])
    go_enter Try.func52, Try.ntmps52
    go_wp2_with (go_at_call 48; (with_reducible refine (c_round_isRange _ _ _).mono ?_); intro e w1 hr; obtain ⟨rfl, hb, hc, hf, hz⟩ := hr.use; (try simp only [World.size_alloc, World.size_setCell, World.size_drew] at hz))
    go_returns
    exact Ret.mk (by rw [H.out]; rfl) (by (repeat' (first | (with_reducible exact Below.refl _ _) | (with_reducible assumption) | (with_reducible refine Below.alloc ?_ ?_ _) | (with_reducible refine Below.drew ?_) | (with_reducible refine Below.setCell ?_ ?_ _) | (refine Below.trans ?_ (Below.mono (by with_reducible assumption) ?_)) | go_size)))
  · have H := Lib.hid (show outF b n = (dn (lst b n) b, sz (lst b n) b n, 0) by simp [outF, h])
    obtain ⟨hb, hn⟩ := isRg_iff.1 h
    have HL := Lib.hid (lst_spec h).2.2
    go_enter Try.func52, Try.ntmps52
    go_wp2_with (first | (go_at_call 48; (with_reducible refine (c_round_isRange _ _ _).mono ?_); intro e w1 hr; obtain ⟨rfl, hb, hc, hf, hz⟩ := hr.use; (try simp only [World.size_alloc, World.size_setCell, World.size_drew] at hz)) | (go_at_call 49; (with_reducible refine (c_round_least _ _ h _).mono ?_); intro e w1 hr; obtain ⟨rfl, hb, hc, hf, hz⟩ := hr.use; (try simp only [World.size_alloc, World.size_setCell, World.size_drew] at hz)) | (go_at_call 76; (with_reducible refine (c_round_by (lst b n) b n (by have := HL.out; omega) (by omega) (by omega) _).mono ?_); intro e w1 hr; obtain ⟨rfl, hb, hc, hf, hz⟩ := hr.use; (try simp only [World.size_alloc, World.size_setCell, World.size_drew] at hz)))
    go_returns
    exact Ret.mk (by rw [H.out]; rfl) (by (repeat' (first | (with_reducible exact Below.refl _ _) | (with_reducible assumption) | (with_reducible refine Below.alloc ?_ ?_ _) | (with_reducible refine Below.drew ?_) | (with_reducible refine Below.setCell ?_ ?_ _) | (refine Below.trans ?_ (Below.mono (by with_reducible assumption) ?_)) | go_size)))
theorem c_round_Fits (b n : Int) (w : World) :
    Calls Try.prog 23 #[.int .i64 b, .int .i64 n] w (Ret (.bool (fitsF b n)) w) := by
  cases h : isRg b n
  · have H := Lib.hid (show outF b n = (0, 0, 1) by simp [outF, h])
    have H2 := Lib.hid (show fitsF b n = false by simp [fitsF, h])
    have o1 : (outF b n).2.2 = 1 := by rw [H.out]
    go_enter Try.func23, Try.ntmps23
    go_wp2_with (go_at_call 52; (with_reducible refine (c_round_Out _ _ _).mono ?_); intro e w1 hr; obtain ⟨rfl, hb, hc, hf, hz⟩ := hr.use; (try simp only [World.size_alloc, World.size_setCell, World.size_drew] at hz))
    go_returns
    exact Ret.bool H2.out.symm (by (repeat' (first | (with_reducible exact Below.refl _ _) | (with_reducible assumption) | (with_reducible refine Below.alloc ?_ ?_ _) | (with_reducible refine Below.drew ?_) | (with_reducible refine Below.setCell ?_ ?_ _) | (refine Below.trans ?_ (Below.mono (by with_reducible assumption) ?_)) | go_size)))
  · have H := Lib.hid (show outF b n = (dn (lst b n) b, sz (lst b n) b n, 0) by simp [outF, h])
    have o1 : (outF b n).2.2 = 0 := by rw [H.out]
    have o2 : (outF b n).1 = dn (lst b n) b := by rw [H.out]
    have o3 : (outF b n).2.1 = sz (lst b n) b n := by rw [H.out]
    cases h1 : (dn (lst b n) b == b) <;> cases h2 : (sz (lst b n) b n == n)
    all_goals
      have H2 := Lib.hid (show fitsF b n = ((dn (lst b n) b == b) && (sz (lst b n) b n == n)) by simp [fitsF, h])
      go_enter Try.func23, Try.ntmps23
      go_wp2_with (go_at_call 52; (with_reducible refine (c_round_Out _ _ _).mono ?_); intro e w1 hr; obtain ⟨rfl, hb, hc, hf, hz⟩ := hr.use; (try simp only [World.size_alloc, World.size_setCell, World.size_drew] at hz))
      go_returns
      exact Ret.bool (by rw [H2.out, h1, h2]; rfl) (by (repeat' (first | (with_reducible exact Below.refl _ _) | (with_reducible assumption) | (with_reducible refine Below.alloc ?_ ?_ _) | (with_reducible refine Below.drew ?_) | (with_reducible refine Below.setCell ?_ ?_ _) | (refine Below.trans ?_ (Below.mono (by with_reducible assumption) ?_)) | go_size)))
theorem r_isRange (b n : Int) (w : World) :
    Calls Try.prog 50 #[.int .i64 b, .int .i64 n] w (Ret (.bool (isRg b n)) w) := by
  cases h : inR b 0 65535
  · have H := Lib.hid (show isRg b n = false by simp [isRg, h])
    go_enter Try.func50, Try.ntmps50
    go_wp2_with (go_at_call 56; (with_reducible refine (r_outside _ _ _ _).mono ?_); rintro e w1 ⟨rfl, rfl⟩)
    go_returns
    exact Ret.bool H.out.symm (by (repeat' (first | (with_reducible exact Below.refl _ _) | (with_reducible assumption) | (with_reducible refine Below.alloc ?_ ?_ _) | (with_reducible refine Below.drew ?_) | (with_reducible refine Below.setCell ?_ ?_ _) | (refine Below.trans ?_ (Below.mono (by with_reducible assumption) ?_)) | go_size)))
  · have hb := inR_iff.1 h
    have hs : wrap64 (65536 - b) = 65536 - b := wr64 (by omega)
    have H := Lib.hid (show isRg b n = inR n 0 (65536 - b) by simp [isRg, h])
    go_enter Try.func50, Try.ntmps50
    go_wp2_with (go_at_call 56; (with_reducible refine (r_outside _ _ _ _).mono ?_); rintro e w1 ⟨rfl, rfl⟩)
    go_returns
    exact Ret.bool (by rw [H.out]) (by (repeat' (first | (with_reducible exact Below.refl _ _) | (with_reducible assumption) | (with_reducible refine Below.alloc ?_ ?_ _) | (with_reducible refine Below.drew ?_) | (with_reducible refine Below.setCell ?_ ?_ _) | (refine Below.trans ?_ (Below.mono (by with_reducible assumption) ?_)) | go_size)))
theorem r_fitsBy (e : Nat) (b n : Int) (he : e ≤ 16) (hb : 0 ≤ b) (hn : 0 ≤ n) (w : World) :
    Calls Try.prog 51 #[.int .i64 b, .int .i64 n, .int .i64 e] w (Ret (.bool (fitBy b n e)) w) := by
  have p1 := pow_ge e
  have p2 := pow_le16 he
  have e1 : wrap64 (2 ^ e) = 2 ^ e := wr64 (by omega)
  have e15 : wrap64 (15 * 2 ^ e) = 15 * 2 ^ e := wr64 (by omega)
  have t1 : b.tmod (2 ^ e) = b % 2 ^ e := Int.tmod_eq_emod_of_nonneg hb
  have t2 : n.tmod (2 ^ e) = n % 2 ^ e := Int.tmod_eq_emod_of_nonneg hn
  have p0 : (2 : Int) ^ e ≠ 0 := by omega
  cases h1 : (b % 2 ^ e == 0) <;> cases h2 : (n % 2 ^ e == 0)
  all_goals
    have H := Lib.hid (show fitBy b n e = ((b % 2 ^ e == 0) && ((n % 2 ^ e == 0) && decide (n ≤ 15 * 2 ^ e))) from rfl)
    go_enter Try.func51, Try.ntmps51
    go_wp2
    go_returns
    exact Ret.bool (by rw [H.out, h1, h2]; simp) (by (repeat' (first | (with_reducible exact Below.refl _ _) | (with_reducible assumption) | (with_reducible refine Below.alloc ?_ ?_ _) | (with_reducible refine Below.drew ?_) | (with_reducible refine Below.setCell ?_ ?_ _) | (refine Below.trans ?_ (Below.mono (by with_reducible assumption) ?_)) | go_size)))
theorem ofE1 {e : Nat} {b n : Int} (he : e ≤ 13) (hb : 0 ≤ b ∧ b ≤ 65535) (hn : 0 ≤ n ∧ n ≤ 65536 - b) : wrap64 (2 ^ e) = 2 ^ e := by
  have p1 := pow_ge e
  have p2 := pow_le16 (e := e) (by omega)
  have d1 := dn_fact e b
  have d0 := dn_nonneg e hb.1
  have u1 := up_fact e (b + n)
  exact wr64 (by omega)
theorem ofQ1 {e : Nat} {b n : Int} (he : e ≤ 13) (hb : 0 ≤ b ∧ b ≤ 65535) (hn : 0 ≤ n ∧ n ≤ 65536 - b) : b.tdiv (2 ^ e) = b / 2 ^ e := by
  have p1 := pow_ge e
  have p2 := pow_le16 (e := e) (by omega)
  have d1 := dn_fact e b
  have d0 := dn_nonneg e hb.1
  have u1 := up_fact e (b + n)
  exact Int.tdiv_eq_ediv_of_nonneg hb.1
theorem ofQ2 {e : Nat} {b n : Int} (he : e ≤ 13) (hb : 0 ≤ b ∧ b ≤ 65535) (hn : 0 ≤ n ∧ n ≤ 65536 - b) : (b + n + 2 ^ e - 1).tdiv (2 ^ e) = (b + n + 2 ^ e - 1) / 2 ^ e := by
  have p1 := pow_ge e
  have p2 := pow_le16 (e := e) (by omega)
  have d1 := dn_fact e b
  have d0 := dn_nonneg e hb.1
  have u1 := up_fact e (b + n)
  exact Int.tdiv_eq_ediv_of_nonneg (by omega)
theorem ofQ3 {e : Nat} {b n : Int} (he : e ≤ 13) (hb : 0 ≤ b ∧ b ≤ 65535) (hn : 0 ≤ n ∧ n ≤ 65536 - b) : wrap64 (b + n + 2 ^ e) = b + n + 2 ^ e := by
  have p1 := pow_ge e
  have p2 := pow_le16 (e := e) (by omega)
  have d1 := dn_fact e b
  have d0 := dn_nonneg e hb.1
  have u1 := up_fact e (b + n)
  exact wr64 (by omega)
theorem ofQ4 {e : Nat} {b n : Int} (he : e ≤ 13) (hb : 0 ≤ b ∧ b ≤ 65535) (hn : 0 ≤ n ∧ n ≤ 65536 - b) : wrap64 (b + n + 2 ^ e - 1) = b + n + 2 ^ e - 1 := by
  have p1 := pow_ge e
  have p2 := pow_le16 (e := e) (by omega)
  have d1 := dn_fact e b
  have d0 := dn_nonneg e hb.1
  have u1 := up_fact e (b + n)
  exact wr64 (by omega)
theorem ofK0 {e : Nat} {b n : Int} (he : e ≤ 13) (hb : 0 ≤ b ∧ b ≤ 65535) (hn : 0 ≤ n ∧ n ≤ 65536 - b) : wrap64 (b / 2 ^ e) = b / 2 ^ e := by
  have p1 := pow_ge e
  have p2 := pow_le16 (e := e) (by omega)
  have d1 := dn_fact e b
  have d0 := dn_nonneg e hb.1
  have u1 := up_fact e (b + n)
  have v1 : 0 ≤ b / 2 ^ e := Int.ediv_nonneg hb.1 (by omega)
  have v2 : b / 2 ^ e ≤ b := Int.ediv_le_self _ hb.1
  exact wr64 (by omega)
theorem ofK1 {e : Nat} {b n : Int} (he : e ≤ 13) (hb : 0 ≤ b ∧ b ≤ 65535) (hn : 0 ≤ n ∧ n ≤ 65536 - b) : wrap64 (b / 2 ^ e * 2 ^ e) = dn e b := by
  have p1 := pow_ge e
  have p2 := pow_le16 (e := e) (by omega)
  have d1 := dn_fact e b
  have d0 := dn_nonneg e hb.1
  have u1 := up_fact e (b + n)
  exact wr64 (x := dn e b) (by omega)
theorem ofK2 {e : Nat} {b n : Int} (he : e ≤ 13) (hb : 0 ≤ b ∧ b ≤ 65535) (hn : 0 ≤ n ∧ n ≤ 65536 - b) : wrap64 ((b + n + 2 ^ e - 1) / 2 ^ e * 2 ^ e) = up e (b + n) := by
  have p1 := pow_ge e
  have p2 := pow_le16 (e := e) (by omega)
  have d1 := dn_fact e b
  have d0 := dn_nonneg e hb.1
  have u1 := up_fact e (b + n)
  exact wr64 (x := up e (b + n)) (by omega)
theorem ofK3 {e : Nat} {b n : Int} (he : e ≤ 13) (hb : 0 ≤ b ∧ b ≤ 65535) (hn : 0 ≤ n ∧ n ≤ 65536 - b) : wrap64 (up e (b + n) - dn e b) = up e (b + n) - dn e b := by
  have p1 := pow_ge e
  have p2 := pow_le16 (e := e) (by omega)
  have d1 := dn_fact e b
  have d0 := dn_nonneg e hb.1
  have u1 := up_fact e (b + n)
  exact wr64 (by omega)
theorem ofK4 {e : Nat} {b n : Int} (he : e ≤ 13) (hb : 0 ≤ b ∧ b ≤ 65535) (hn : 0 ≤ n ∧ n ≤ 65536 - b) : wrap64 (b + n) = b + n := by
  have p1 := pow_ge e
  have p2 := pow_le16 (e := e) (by omega)
  have d1 := dn_fact e b
  have d0 := dn_nonneg e hb.1
  have u1 := up_fact e (b + n)
  exact wr64 (by omega)
theorem ofK5 {e : Nat} {b n : Int} (he : e ≤ 13) (hb : 0 ≤ b ∧ b ≤ 65535) (hn : 0 ≤ n ∧ n ≤ 65536 - b) : wrap64 ((b + n + 2 ^ e - 1) / 2 ^ e) = (b + n + 2 ^ e - 1) / 2 ^ e := by
  have p1 := pow_ge e
  have p2 := pow_le16 (e := e) (by omega)
  have d1 := dn_fact e b
  have d0 := dn_nonneg e hb.1
  have u1 := up_fact e (b + n)
  have v1 : 0 ≤ (b + n + 2 ^ e - 1) / 2 ^ e := Int.ediv_nonneg (by omega) (by omega)
  have v2 : (b + n + 2 ^ e - 1) / 2 ^ e ≤ b + n + 2 ^ e - 1 := Int.ediv_le_self _ (by omega)
  exact wr64 (by omega)
theorem ofK6 {e : Nat} {b n : Int} (he : e ≤ 13) (hb : 0 ≤ b ∧ b ≤ 65535) (hn : 0 ≤ n ∧ n ≤ 65536 - b) : wrap64 (dn e b) = dn e b := by
  have p1 := pow_ge e
  have p2 := pow_le16 (e := e) (by omega)
  have d1 := dn_fact e b
  have d0 := dn_nonneg e hb.1
  have u1 := up_fact e (b + n)
  exact wr64 (by omega)
theorem ofS1 {e : Nat} {b n : Int} (he : e ≤ 13) (hb : 0 ≤ b ∧ b ≤ 65535) (hn : 0 ≤ n ∧ n ≤ 65536 - b) : 0 ≤ up e (b + n) - dn e b := by
  have p1 := pow_ge e
  have p2 := pow_le16 (e := e) (by omega)
  have d1 := dn_fact e b
  have d0 := dn_nonneg e hb.1
  have u1 := up_fact e (b + n)
  omega
theorem ofX1 {e : Nat} {b n : Int} (he : e ≤ 13) (hb : 0 ≤ b ∧ b ≤ 65535) (hn : 0 ≤ n ∧ n ≤ 65536 - b) : wrap64 ((e : Int) + 1) = (e : Int) + 1 := by
  have p1 := pow_ge e
  have p2 := pow_le16 (e := e) (by omega)
  have d1 := dn_fact e b
  have d0 := dn_nonneg e hb.1
  have u1 := up_fact e (b + n)
  exact wr64 (by omega)
theorem ofwr (x : Int) : IntKind.i64.wrap x = wrap64 x := (IntKind.wrap_i64 x).trans (by unfold wrap64; rfl)
end Go.Proofs.Ytmalaomcolgfcaa
