/- The contract of the reference's Sweep, where the machine or the numbers may not be. Conditions: none. -/
import Derived.Test.YtnbppchpgagliaaStruckV
import Derived.Test.YtnbppchpgagliaaSweepS
import Derived.Test.YtnbppchpgagliaaStepCkR
namespace Go.Proofs.Ytnbppchpgagliaa
open Go.RowKit
set_option linter.unusedVariables false
set_option linter.unusedSimpArgs false
set_option maxRecDepth 100000
theorem rsweepB (mc : Array Value) (base n : Int) (w : World) : KeptB w [(mc, 45), (#[.int .i64 base], 3), (#[.int .i64 n], 3), (zeroMC, 45)] ((((w.alloc (.cells mc 45)).alloc (.cells #[.int .i64 base] 3)).alloc (.cells #[.int .i64 n] 3)).alloc (.cells zeroMC 45)) :=
  ((((KeptB.nil_ (Below.refl _ w)).more (t := 45) (cs := mc) rfl).more (t := 3) (cs := #[.int .i64 base]) (by rw [World.size_alloc]; rfl)).more (t := 3) (cs := #[.int .i64 n]) (by simp only [World.size_alloc]; rfl)).more (t := 45) (cs := zeroMC) (by simp only [World.size_alloc]; rfl)
set_option maxHeartbeats 2000000 in
theorem rsweep_no (mc : Array Value) (m : Mach) (hwf : m.Wf) (base n : Int) (w : World) (hm : MachV w w.heap.size mc m) (h0 : (machE m != 0) = true) :
    Calls Try.prog 32 #[.agg mc, .int .i64 base, .int .i64 n] w (RetMach w Mach.zero fun v => .tuple #[v, .int .i64 0, .int .i64 (machE m)]) := by
  have HM := Lib.hid hm
  have hsz := hm.size
  clear hm
  go_enter Try.func32, Try.ntmps32
  go_wp2_with (first | (refine wpList_load_box rfl 45 (.tmp 3) rfl ((rsweepB mc base n w).box 0 _ rfl) rfl Try.underlying45 rfl (by rw [hsz]; kernel_rfl) ?_) | (go_at_call 22; (with_reducible refine (r_StepCheck mc m hwf _ ((HM.out.below (by (repeat' (first | (with_reducible exact Below.refl _ _) | (with_reducible assumption) | (with_reducible refine Below.alloc ?_ ?_ _) | (with_reducible refine Below.drew ?_) | (with_reducible refine Below.setCell ?_ ?_ _) | (refine Below.trans ?_ (Below.mono (by with_reducible assumption) ?_)) | go_size)))).more (by ((try simp only [World.size_alloc, World.size_setCell, World.size_drew]) <;> omega)))).mono ?_); intro e w1 hr; obtain ⟨rfl, hb, hc, hf, hz⟩ := hr.use; clear hr hc hf; have hK := KeptB.on (rsweepB mc base n w) hb; clear hb hz; have HK := Lib.hid hK; have hbw := hK.below; have HB0 := Lib.hid (hK.box 0 _ rfl); have c0 := fun o => HB0.out.cell o; have f0 := fun o => HB0.out.frozen o; have z0 := HB0.out.lt; (try dsimp only at c0); have HB1 := Lib.hid (hK.box 1 _ rfl); have c1 := fun o => HB1.out.cell o; have f1 := fun o => HB1.out.frozen o; have z1 := HB1.out.lt; (try dsimp only at c1); have HB2 := Lib.hid (hK.box 2 _ rfl); have c2 := fun o => HB2.out.cell o; have f2 := fun o => HB2.out.frozen o; have z2 := HB2.out.lt; (try dsimp only at c2); have HB3 := Lib.hid (hK.box 3 _ rfl); have c3 := fun o => HB3.out.cell o; have f3 := fun o => HB3.out.frozen o; have z3 := HB3.out.lt; (try dsimp only at c3); (try simp only [Nat.add_zero] at c0 f0 z0); clear hK) | (refine wpList_store_box rfl 45 (.tmp 6) (.tmp 24) rfl (HK.out.box 3 _ rfl) rfl rfl (by kernel_rfl) rfl (by simp [Value.oneCell']) ?_; intro w2 hbw2 hgw2 hzw2) | fail)
  have hbw3 : Box w2 (w.heap.size + 3) 45 zeroMC := hbw2
  ((try simp only [Exit.inBlock, Exit.then]); refine bodyPost_ret (results_ctt rfl rfl hbw3 Try.underlying45 rfl (by kernel_rfl)) rfl ?_)
  exact ⟨_, rfl, MachV.zero w2 _, hbw.grown hgw2 (by omega) (fun k hk => by cases hk; omega)⟩
set_option maxHeartbeats 2000000 in
theorem rsweep_arg (mc : Array Value) (m : Mach) (hwf : m.Wf) (base n : Int) (w : World) (hm : MachV w w.heap.size mc m) (h0 : (machE m != 0) = false) (h1 : argsOk base n = false) :
    Calls Try.prog 32 #[.agg mc, .int .i64 base, .int .i64 n] w (RetMach w Mach.zero fun v => .tuple #[v, .int .i64 0, .int .i64 1]) := by
  have HM := Lib.hid hm
  have hsz := hm.size
  clear hm
  have hcs : inR base 0 400 = false ∨ (inR base 0 400 = true ∧ inR n 0 400 = false) ∨ (inR base 0 400 = true ∧ inR n 0 400 = true ∧ IntKind.i64.wrap (base + n) = base + n ∧ decide (base + n > 400) = true) := by
    cases a1 : inR base 0 400
    · exact .inl rfl
    cases a2 : inR n 0 400
    · exact .inr (.inl ⟨rfl, rfl⟩)
    refine .inr (.inr ⟨rfl, rfl, IntWalk.i64_in _ ?_, ?_⟩)
    · rw [inR_iff] at a1 a2; omega
    · cases a3 : decide (base + n > 400)
      · exfalso
        have : argsOk base n = true := by
          unfold argsOk
          rw [inR_iff] at a1 a2
          simp only [decide_eq_false_iff_not] at a3
          rw [Bool.and_eq_true, inR_iff, inR_iff]
          omega
        rw [this] at h1; cases h1
      · rfl
  clear h1
  rcases hcs with a1 | ⟨a1, a2⟩ | ⟨a1, a2, a3, a4⟩
  all_goals
    go_enter Try.func32, Try.ntmps32
    go_wp2_with (first | (refine wpList_load_box rfl 45 (.tmp 3) rfl ((rsweepB mc base n w).box 0 _ rfl) rfl Try.underlying45 rfl (by rw [hsz]; kernel_rfl) ?_) | (go_at_call 22; (with_reducible refine (r_StepCheck mc m hwf _ ((HM.out.below (by (repeat' (first | (with_reducible exact Below.refl _ _) | (with_reducible assumption) | (with_reducible refine Below.alloc ?_ ?_ _) | (with_reducible refine Below.drew ?_) | (with_reducible refine Below.setCell ?_ ?_ _) | (refine Below.trans ?_ (Below.mono (by with_reducible assumption) ?_)) | go_size)))).more (by ((try simp only [World.size_alloc, World.size_setCell, World.size_drew]) <;> omega)))).mono ?_); intro e w1 hr; obtain ⟨rfl, hb, hc, hf, hz⟩ := hr.use; clear hr hc hf; have hK := KeptB.on (rsweepB mc base n w) hb; clear hb hz; have HK := Lib.hid hK; have hbw := hK.below; have HB0 := Lib.hid (hK.box 0 _ rfl); have c0 := fun o => HB0.out.cell o; have f0 := fun o => HB0.out.frozen o; have z0 := HB0.out.lt; (try dsimp only at c0); have HB1 := Lib.hid (hK.box 1 _ rfl); have c1 := fun o => HB1.out.cell o; have f1 := fun o => HB1.out.frozen o; have z1 := HB1.out.lt; (try dsimp only at c1); have HB2 := Lib.hid (hK.box 2 _ rfl); have c2 := fun o => HB2.out.cell o; have f2 := fun o => HB2.out.frozen o; have z2 := HB2.out.lt; (try dsimp only at c2); have HB3 := Lib.hid (hK.box 3 _ rfl); have c3 := fun o => HB3.out.cell o; have f3 := fun o => HB3.out.frozen o; have z3 := HB3.out.lt; (try dsimp only at c3); (try simp only [Nat.add_zero] at c0 f0 z0); clear hK) | (go_at_call 63; (with_reducible refine (r_outside _ _ _ _).mono ?_); rintro e w1 ⟨rfl, rfl⟩) | (refine wpList_store_box rfl 45 (.tmp 6) (.tmp 38) rfl (HK.out.box 3 _ rfl) rfl rfl (by kernel_rfl) rfl (by simp [Value.oneCell']) ?_; intro w2 hbw2 hgw2 hzw2) | fail)
    have hbw3 : Box w2 (w.heap.size + 3) 45 zeroMC := hbw2
    ((try simp only [Exit.inBlock, Exit.then]); refine bodyPost_ret (results_ctt rfl rfl hbw3 Try.underlying45 rfl (by kernel_rfl)) rfl ?_)
    exact ⟨_, rfl, MachV.zero w2 _, hbw.grown hgw2 (by omega) (fun k hk => by cases hk; omega)⟩
end Go.Proofs.Ytnbppchpgagliaa
