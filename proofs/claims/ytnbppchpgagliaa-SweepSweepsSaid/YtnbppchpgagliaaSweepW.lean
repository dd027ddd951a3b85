/- The contract of sweep.Sweep. Conditions: none. -/
import Derived.Test.YtnbppchpgagliaaSweepS
namespace Go.Proofs.Ytnbppchpgagliaa
open Go.RowKit
set_option linter.unusedVariables false
set_option linter.unusedSimpArgs false
set_option maxRecDepth 100000
theorem zeroMC_size : zeroMC.size = 64 := by rw [zeroMC, List.size_toArray, machL_length rfl]
theorem sweepA_no {base n : Int} {m : Mach} (h : (machE m != 0) = true) : sweepA base n m = (Mach.zero, 0, machE m) := by unfold sweepA; rw [if_pos h]
theorem sweepA_arg {base n : Int} {m : Mach} (h : (machE m != 0) = false) (h1 : argsOk base n = false) : sweepA base n m = (Mach.zero, 0, 1) := by unfold sweepA; rw [if_neg (by simp [h]), if_neg (by simp [h1])]
theorem sweepA_ok {base n : Int} {m : Mach} (h : (machE m != 0) = false) (h1 : argsOk base n = true) : sweepA base n m = (sweepM base n m, sweepN base n m, 0) := by unfold sweepA; rw [if_neg (by simp [h]), if_pos h1]
theorem sweepB (mc : Array Value) (w : World) : KeptB w [(mc, 45), (zeroMC, 45)] ((w.alloc (.cells mc 45)).alloc (.cells zeroMC 45)) :=
  ((KeptB.nil_ (Below.refl _ w)).more (t := 45) (cs := mc) rfl).more (t := 45) (cs := zeroMC) (by rw [World.size_alloc]; rfl)
set_option maxHeartbeats 2000000 in
theorem sweep_no (mc : Array Value) (m : Mach) (base n : Int) (w : World) (hm : MachV w w.heap.size mc m) (h0 : (machE m != 0) = true) :
    Calls Try.prog 31 #[.agg mc, .int .i64 base, .int .i64 n] w (RetMach w Mach.zero fun v => .tuple #[v, .int .i64 0, .int .i64 (machE m)]) := by
  have HM := Lib.hid hm
  have hsz := hm.size
  clear hm
  go_enter Try.func31, Try.ntmps31
  go_wp2_with (first | (refine wpList_load_box rfl 45 (.tmp 3) rfl ((sweepB mc w).box 0 _ rfl) rfl Try.underlying45 rfl (by rw [hsz]; kernel_rfl) ?_) | (go_at_call 21; (with_reducible refine (c_step_Check mc m _ ((HM.out.below (by (repeat' (first | (with_reducible exact Below.refl _ _) | (with_reducible assumption) | (with_reducible refine Below.alloc ?_ ?_ _) | (with_reducible refine Below.drew ?_) | (with_reducible refine Below.setCell ?_ ?_ _) | (refine Below.trans ?_ (Below.mono (by with_reducible assumption) ?_)) | go_size)))).more (by ((try simp only [World.size_alloc, World.size_setCell, World.size_drew]) <;> omega)))).mono ?_); intro e w1 hr; obtain ⟨rfl, hb, hc, hf, hz⟩ := hr.use; clear hr hc hf; have hK := KeptB.on (sweepB mc w) hb; clear hb hz; have HK := Lib.hid hK; have hbw := hK.below; have HB0 := Lib.hid (hK.box 0 _ rfl); have c0 := fun o => HB0.out.cell o; have f0 := fun o => HB0.out.frozen o; have z0 := HB0.out.lt; (try dsimp only at c0); have HB1 := Lib.hid (hK.box 1 _ rfl); have c1 := fun o => HB1.out.cell o; have f1 := fun o => HB1.out.frozen o; have z1 := HB1.out.lt; (try dsimp only at c1); (try simp only [Nat.add_zero] at c0 f0 z0); clear hK) | (refine wpList_store_box rfl 45 (.tmp 6) (.tmp 18) rfl (HK.out.box 1 _ rfl) rfl rfl (by kernel_rfl) rfl (by simp [Value.oneCell']) ?_; intro w2 hbw2 hgw2 hzw2) | fail)
  have hbw3 : Box w2 (w.heap.size + 1) 45 zeroMC := hbw2
  ((try simp only [Exit.inBlock, Exit.then]); refine bodyPost_ret (results_ctt rfl rfl hbw3 Try.underlying45 rfl (by kernel_rfl)) rfl ?_)
  exact ⟨_, rfl, MachV.zero w2 _, hbw.grown hgw2 (by omega) (fun k hk => by cases hk; omega)⟩
set_option maxHeartbeats 2000000 in
theorem sweep_arg (mc : Array Value) (m : Mach) (base n : Int) (w : World) (hm : MachV w w.heap.size mc m) (h0 : (machE m != 0) = false) (h1 : argsOk base n = false) :
    Calls Try.prog 31 #[.agg mc, .int .i64 base, .int .i64 n] w (RetMach w Mach.zero fun v => .tuple #[v, .int .i64 0, .int .i64 1]) := by
  have HM := Lib.hid hm
  have hsz := hm.size
  clear hm
  have hcs : base < 0 ∨ 400 < base ∨ (0 ≤ base ∧ base ≤ 400 ∧ n < 0) ∨ (0 ≤ base ∧ base ≤ 400 ∧ 0 ≤ n ∧ 400 - base < n) := by
    by_cases a1 : base < 0
    · exact .inl a1
    by_cases a2 : 400 < base
    · exact .inr (.inl a2)
    by_cases a3 : n < 0
    · exact .inr (.inr (.inl ⟨by omega, by omega, a3⟩))
    refine .inr (.inr (.inr ⟨by omega, by omega, by omega, ?_⟩))
    by_cases a4 : 400 - base < n
    · exact a4
    · exfalso
      have : argsOk base n = true := by
        unfold argsOk
        rw [Bool.and_eq_true, inR_iff, inR_iff]
        omega
      rw [this] at h1; cases h1
  clear h1
  rcases hcs with a1 | a1 | ⟨a1, a2, a3⟩ | ⟨a1, a2, a3, a4⟩
  all_goals
    go_enter Try.func31, Try.ntmps31
    go_wp2_with (first | (refine wpList_load_box rfl 45 (.tmp 3) rfl ((sweepB mc w).box 0 _ rfl) rfl Try.underlying45 rfl (by rw [hsz]; kernel_rfl) ?_) | (go_at_call 21; (with_reducible refine (c_step_Check mc m _ ((HM.out.below (by (repeat' (first | (with_reducible exact Below.refl _ _) | (with_reducible assumption) | (with_reducible refine Below.alloc ?_ ?_ _) | (with_reducible refine Below.drew ?_) | (with_reducible refine Below.setCell ?_ ?_ _) | (refine Below.trans ?_ (Below.mono (by with_reducible assumption) ?_)) | go_size)))).more (by ((try simp only [World.size_alloc, World.size_setCell, World.size_drew]) <;> omega)))).mono ?_); intro e w1 hr; obtain ⟨rfl, hb, hc, hf, hz⟩ := hr.use; clear hr hc hf; have hK := KeptB.on (sweepB mc w) hb; clear hb hz; have HK := Lib.hid hK; have hbw := hK.below; have HB0 := Lib.hid (hK.box 0 _ rfl); have c0 := fun o => HB0.out.cell o; have f0 := fun o => HB0.out.frozen o; have z0 := HB0.out.lt; (try dsimp only at c0); have HB1 := Lib.hid (hK.box 1 _ rfl); have c1 := fun o => HB1.out.cell o; have f1 := fun o => HB1.out.frozen o; have z1 := HB1.out.lt; (try dsimp only at c1); (try simp only [Nat.add_zero] at c0 f0 z0); clear hK) | (refine wpList_store_box rfl 45 (.tmp 6) (.tmp 36) rfl (HK.out.box 1 _ rfl) rfl rfl (by kernel_rfl) rfl (by simp [Value.oneCell']) ?_; intro w2 hbw2 hgw2 hzw2) | fail)
    have hbw3 : Box w2 (w.heap.size + 1) 45 zeroMC := hbw2
    ((try simp only [Exit.inBlock, Exit.then]); refine bodyPost_ret (results_ctt rfl rfl hbw3 Try.underlying45 rfl (by kernel_rfl)) rfl ?_)
    exact ⟨_, rfl, MachV.zero w2 _, hbw.grown hgw2 (by omega) (fun k hk => by cases hk; omega)⟩
end Go.Proofs.Ytnbppchpgagliaa
