/- The reference's 'struck': is one of its cells to be swept? Conditions: none. -/
import Derived.Test.YtnbppchpgagliaaSweepM
import Derived.Test.YtnbppchpgagliaaBox
import Derived.LoopN
namespace Go.Proofs.Ytnbppchpgagliaa
open Go.RowKit
set_option linter.unusedVariables false
set_option linter.unusedSimpArgs false
set_option maxRecDepth 100000
theorem keyOk_wf {k : Key} (h : keyOk k = true) : k.Wf := by
  rw [keyOk_iff] at h
  exact ⟨⟨by omega, by omega⟩, ⟨by omega, by omega⟩, ⟨by omega, by omega⟩, ⟨by omega, by omega⟩, ⟨by omega, by omega⟩⟩
theorem hit_yes {base n i : Int} {k : Key} (h1 : base ≤ i) (h2 : i < base + n) (hc : cov k i = true) : hitK base n k = true := by
  rw [cov_iff] at hc
  rw [hitK_iff]
  omega
theorem hit_no {base n : Int} {k : Key} (h : ∀ j : Nat, base + j < base + n → cov k (base + j) = false) : hitK base n k = false := by
  cases hh : hitK base n k
  · rfl
  · exfalso
    rw [hitK_iff] at hh
    rcases Int.le_total base k.base with hb | hb
    · have := h (k.base - base).toNat (by omega)
      rw [show base + ((k.base - base).toNat : Int) = k.base by omega, Bool.eq_false_iff] at this
      exact this (cov_iff.2 ⟨by omega, by omega⟩)
    · have := h 0 (by omega)
      rw [show base + ((0 : Nat) : Int) = base by omega, Bool.eq_false_iff] at this
      exact this (cov_iff.2 ⟨by omega, by omega⟩)
set_option maxHeartbeats 1000000 in
theorem r_struck (k : Key) (base n : Int) (w : World) (hk : keyOk k = true) (b1 : 0 ≤ base) (b2 : base ≤ 400) (b3 : 0 ≤ n) (b4 : base + n ≤ 400) :
    Calls Try.prog 65 #[.agg #[.int .i64 k.perm, .int .i64 k.base, .int .i64 k.len, .int .i64 k.pos, .int .i64 k.tag], .int .i64 base, .int .i64 n] w (Ret (.bool (hitK base n k)) w) := by
  have HW := Lib.hid (keyOk_wf hk)
  have E0 := Lib.hid (show IntKind.i64.wrap (base + n) = base + n from IntWalk.i64_in _ (by omega))
  have HB := Lib.hid ((KeptB.nil_ (Below.refl _ w)).more (t := 28) (cs := #[.int .i64 k.perm, .int .i64 k.base, .int .i64 k.len, .int .i64 k.pos, .int .i64 k.tag]) rfl)
  clear hk
  go_enter Try.func65, Try.ntmps65
  go_wp2_with fail
  go_loopw [6, 7] (fun u v wr => ∃ i : Nat, u = .bool false ∧ v = .int .i64 (base + i) ∧ i ≤ n ∧ (∀ j : Nat, j < i → cov k (base + j) = false) ∧ KeptB w [(#[.int .i64 k.perm, .int .i64 k.base, .int .i64 k.len, .int .i64 k.pos, .int .i64 k.tag], 28)] wr) (fun u v _ => (base + n - intOf v).toNat)
  case atStart => exact ⟨0, rfl, by simp, by omega, fun j hj => by omega, HB.out⟩
  case round =>
    obtain ⟨i, rfl, rfl, hi, hall, hkb⟩ := hrel
    have HA := Lib.hid hall
    have HKB := Lib.hid hkb
    have hbw := hkb.below
    have hz := (hkb.box 0 _ rfl).lt
    have c0 := (hkb.box 0 _ rfl).cell
    simp only [Nat.add_zero] at c0 hz
    clear hall hkb HB
    rcases Int.lt_or_le (i : Int) n with hlt | hge
    · have HI := Lib.hid (show i64 (base + i) from ⟨by omega, by omega⟩)
      have HC := Lib.hid (fun W => r_Covers k (base + i) HW.out HI.out W)
      have E1 := Lib.hid (show IntKind.i64.wrap (base + i + 1) = base + ((i + 1 : Nat) : Int) from (IntWalk.i64_in _ (by omega)).trans (by omega))
      have hcnd : base + (i : Int) < base + n := by omega
      cases hc : cov k (base + i)
      · rw [hc] at HC
        have HN := Lib.hid hc
        clear hc
        have e0 := E0.out
        have e1 := E1.out
        go_wp2_with (go_at_call 69; (with_reducible refine (HC.out _).mono ?_); intro e w1 hr; obtain ⟨rfl, hb, hc, hf, hz⟩ := hr.use; clear hr hc hf; have hK := KeptB.on (HKB.out) hb; clear hb hz; have HK := Lib.hid hK; have hbw := hK.below; have HB0 := Lib.hid (hK.box 0 _ rfl); have c0 := fun o => HB0.out.cell o; have f0 := fun o => HB0.out.frozen o; have z0 := HB0.out.lt; (try dsimp only at c0); (try simp only [Nat.add_zero] at c0 f0 z0); clear hK)
        clear e0 e1
        go_roundw
        case rel => 
          refine ⟨i + 1, rfl, congrArg (Value.int IntKind.i64) (by omega), by omega, fun j hj => ?_, HK.out⟩
          rcases Nat.lt_or_ge j i with h | h
          · exact HA.out j h
          · obtain rfl : j = i := by omega
            exact HN.out
        case measure => simp [intOf]; omega
      · rw [hc] at HC
        have HN := Lib.hid (hit_yes (base := base) (n := n) (i := base + i) (by omega) (by omega) hc)
        clear hc
        have e0 := E0.out
        go_wp2_with (go_at_call 69; (with_reducible refine (HC.out _).mono ?_); intro e w1 hr; obtain ⟨rfl, hb, hc, hf, hz⟩ := hr.use; clear hr hc hf; have hK := KeptB.on (HKB.out) hb; clear hb hz; have HK := Lib.hid hK; have hbw := hK.below; have HB0 := Lib.hid (hK.box 0 _ rfl); have c0 := fun o => HB0.out.cell o; have f0 := fun o => HB0.out.frozen o; have z0 := HB0.out.lt; (try dsimp only at c0); (try simp only [Nat.add_zero] at c0 f0 z0); clear hK)
        clear e0
        go_returns
        exact Ret.bool HN.out.symm (by (repeat' (first | (with_reducible exact Below.refl _ _) | (with_reducible assumption) | (with_reducible refine Below.alloc ?_ ?_ _) | (with_reducible refine Below.drew ?_) | (with_reducible refine Below.setCell ?_ ?_ _) | (refine Below.trans ?_ (Below.mono (by with_reducible assumption) ?_)) | go_size)))
    · have HN := Lib.hid (hit_no (n := n) (k := k) (base := base) fun j hj => HA.out j (by omega))
      have hcnd : ¬ (base + (i : Int) < base + n) := by omega
      have e0 := E0.out
      go_wp2_with fail
      clear e0
      go_returns
      exact Ret.bool HN.out.symm (by (repeat' (first | (with_reducible exact Below.refl _ _) | (with_reducible assumption) | (with_reducible refine Below.alloc ?_ ?_ _) | (with_reducible refine Below.drew ?_) | (with_reducible refine Below.setCell ?_ ?_ _) | (refine Below.trans ?_ (Below.mono (by with_reducible assumption) ?_)) | go_size)))
end Go.Proofs.Ytnbppchpgagliaa
