/- The contract of sweep.Sweep, where the machine and the numbers may be. Conditions: none. -/
import Derived.Test.YtnbppchpgagliaaStrike
namespace Go.Proofs.Ytnbppchpgagliaa
open Go.RowKit
set_option linter.unusedVariables false
set_option linter.unusedSimpArgs false
set_option maxRecDepth 100000
theorem cnt_bd (base n : Int) (l : List Val) (k : Nat) : 0 ≤ sumL (cntV base n) (l.take k) ∧ sumL (cntV base n) (l.take k) ≤ l.length := by
  have := sumL_bd (f := cntV base n) (c := 1) (fun x => one01_bd _) (l.take k)
  have h := List.length_take_le' k l
  omega
theorem cntF_bd (base n : Int) (l : List Frame) (k : Nat) : 0 ≤ sumL (cntF base n) (l.take k) ∧ sumL (cntF base n) (l.take k) ≤ 2 * l.length := by
  have := sumL_bd (f := cntF base n) (c := 2) (fun x => by have := one01_bd (hitK base n x.code); have := one01_bd (hitV base n x.data); unfold cntF cntK cntV; omega) (l.take k)
  have h := List.length_take_le' k l
  omega
section
variable {w0 w : World} {B g r bb : Nat} {va vs vo : Value} {base n many : Int} {m : Mach}
theorem InPl.c61 (h : InPl w0 w B g r bb va vs vo base n many m) : w.cell? ⟨g, 61, none⟩ = some va := by rw [h.box.cell, List.getElem?_toArray]; exact machL_tail h.regs 5
theorem InPl.c62 (h : InPl w0 w B g r bb va vs vo base n many m) : w.cell? ⟨g, 62, none⟩ = some vs := by rw [h.box.cell, List.getElem?_toArray]; exact machL_tail h.regs 6
theorem InPl.cast (h : InPl w0 w B g r bb va vs vo base n many m) {many' : Int} {m' : Mach} (h1 : many = many') (h2 : m = m') : InPl w0 w B g r bb va vs vo base n many' m' := by subst h1 h2; exact h
end
set_option maxHeartbeats 4000000 in
theorem sweep_ok (mc : Array Value) (m : Mach) (base n : Int) (w : World) (hm : MachV w w.heap.size mc m) (h0 : (machE m != 0) = false) (h1 : argsOk base n = true) :
    Calls Try.prog 31 #[.agg mc, .int .i64 base, .int .i64 n] w (RetMach w (sweepM base n m) fun v => .tuple #[v, .int .i64 (sweepN base n m), .int .i64 0]) := by
  have HM := Lib.hid hm
  have hsz := hm.size
  obtain ⟨b1, b2, b3, b4⟩ : 0 ≤ base ∧ base ≤ 400 ∧ 0 ≤ n ∧ n ≤ 400 - base := by
    unfold argsOk at h1
    rw [Bool.and_eq_true, inR_iff, inR_iff] at h1
    omega
  have HL := Lib.hid (machE_lens h0)
  have HOK := Lib.hid (machE_ok h0)
  clear hm h1
  go_enter Try.func31, Try.ntmps31
  go_wp2_with (first | (refine wpList_load_box rfl 45 (.tmp 3) rfl ((sweepB mc w).box 0 _ rfl) rfl Try.underlying45 rfl (by rw [hsz]; kernel_rfl) ?_) | (go_at_call 21; (with_reducible refine (c_step_Check mc m _ ((HM.out.below (by (repeat' (first | (with_reducible exact Below.refl _ _) | (with_reducible assumption) | (with_reducible refine Below.alloc ?_ ?_ _) | (with_reducible refine Below.drew ?_) | (with_reducible refine Below.setCell ?_ ?_ _) | (refine Below.trans ?_ (Below.mono (by with_reducible assumption) ?_)) | go_size)))).more (by ((try simp only [World.size_alloc, World.size_setCell, World.size_drew]) <;> omega)))).mono ?_); intro e w1 hr; obtain ⟨rfl, hb, hc, hf, hz⟩ := hr.use; clear hr hc hf; have hK := KeptB.on (sweepB mc w) hb; clear hb hz; have HK := Lib.hid hK; have hbw := hK.below; have HB0 := Lib.hid (hK.box 0 _ rfl); have c0 := fun o => HB0.out.cell o; have f0 := fun o => HB0.out.frozen o; have z0 := HB0.out.lt; (try dsimp only at c0); have HB1 := Lib.hid (hK.box 1 _ rfl); have c1 := fun o => HB1.out.cell o; have f1 := fun o => HB1.out.frozen o; have z1 := HB1.out.lt; (try dsimp only at c1); (try simp only [Nat.add_zero] at c0 f0 z0); clear hK) | (refine wpList_load_box rfl 45 (.tmp 3) rfl HB0.out rfl Try.underlying45 rfl (by rw [hsz]; kernel_rfl) ?_) | (go_at_call 60; (with_reducible refine (c_step_Copied mc m _ ((HM.out.below HK.out.below).more HK.out.below.size) HL.out.1 HL.out.2.1 HL.out.2.2).mono ?_); rintro e w2 ⟨mc', rfl, hO, hb2⟩; obtain ⟨va, vs, vo, B1, B2, rfl, hOa, hUa, hB1, hOs, hUs, hB2, hOo⟩ := hO.ex; have H8 := Lib.hid hO.regs; have HK2 := Lib.hid (HK.out.on hb2); clear hO; have HOa := Lib.hid hOa; have HOs := Lib.hid hOs; have HOo := Lib.hid hOo; have HUa := Lib.hid hUa; have HUs := Lib.hid hUs; clear hOa hOs hOo hUa hUs c0 c1 f0 f1 HB0 HB1 HK hbw) | (refine wpList_store_mach rfl (.tmp 3) (.tmp 38) rfl (HK2.out.box 0 _ rfl) rfl rfl H8.out hsz HOa.out.one_ HOs.out.one_ HOo.out.one_ ?_; intro w3 hbw3 hgw3 hzw3) | fail)
  obtain ⟨A1, k1, rfl⟩ := HOa.out.form
  obtain ⟨A2, k2, rfl⟩ := HOs.out.form
  have hz := HK2.out.size
  simp only [List.length_cons, List.length_nil] at hz
  have hz2 := hb2.size
  have HD := Lib.hid (show Apart w.heap.size (w.heap.size + 1) w2.heap.size (.slice A1 m.mem.length k1) (.slice A2 m.stack.length k2) vo from
    ⟨fun h => by have := HOa.out.lt _ h; omega, fun h => by have := HOa.out.lt _ h; omega, fun h => by have := HOa.out.lt _ h; omega,
      fun h => by have := HOs.out.lt _ h; omega, fun h => by have := HOs.out.lt _ h; omega, fun h => by have := HOs.out.lt _ h; omega,
      fun h => by have := HOo.out.lt _ h; omega, fun h => by have := HOo.out.lt _ h; omega, fun h => by have := HOo.out.lt _ h; omega,
      fun k h h' => by have := HUa.out _ h; have := HOs.out.lt _ h'; omega, fun k h h' => by have := HUa.out _ h; have := HOo.out.lt _ h'; omega, fun k h h' => by have := HUs.out _ h; have := HOo.out.lt _ h'; omega,
      by omega, by omega, by omega⟩)
  have HI := Lib.hid (show InPl w (w3.alloc (.cells #[.int .i64 base, .int .i64 n, .int .i64 0] 104)) w.heap.size w.heap.size (w.heap.size + 1) w2.heap.size (.slice A1 m.mem.length k1) (.slice A2 m.stack.length k2) vo base n 0 m from
    ⟨(HK2.out.below.grown hgw3 HK2.out.below.size (fun k hk => by injection hk with hk; omega)).alloc (by omega) _, ⟨by rw [World.size_alloc]; omega, by omega, by omega⟩, Box.alloc hbw3 _,
      ((HK2.out.box 1 _ rfl).grown hgw3 (fun h => by injection h with h; omega)).alloc _, Box.new w3 _ _ hzw3.symm,
      ((HOa.out.kept hgw3 (.inl fun h => by have := HOa.out.lt _ h; omega)).base_mono (by omega)).alloc _, ((HOs.out.kept hgw3 (.inl fun h => by have := HOs.out.lt _ h; omega)).base_mono (by omega)).alloc _, ((HOo.out.kept hgw3 (.inl fun h => by have := HOo.out.lt _ h; omega)).base_mono (by omega)).alloc _, H8.out⟩)
  clear HOa HOs HOo HUa HUs hbw3 hgw3 hb2 HK2
  go_wp2_with (go_at_call 61; refine (strike_code HI.out HD.out HOK.out.code b1 b2 b3 (by omega) (by omega) (by omega)).mono ?_; rintro e w4 ⟨rfl, hI4⟩; have HI4 := Lib.hid hI4; clear hI4)
  have hc0 := one01_bd (hitK base n m.code)
  have H8' := H8.out
  obtain ⟨hL1, hL2, hL3⟩ := HL.out
  clear HI
  go_loopw [11, 46] (fun _ v wr => ∃ k : Nat, v = .int .i64 k ∧ k ≤ 8 ∧ InPl w wr w.heap.size w.heap.size (w.heap.size + 1) w2.heap.size (.slice A1 m.mem.length k1) (.slice A2 m.stack.length k2) vo base n (cntK base n m.code + sumL (cntV base n) (m.regs.take k)) ⟨upto (swV base n) m.regs k, swK base n m.code, m.mem, m.stack, m.out⟩) (fun _ v _ => (8 - intOf v).toNat)
  case atStart => exact ⟨0, rfl, by omega, HI4.out.cast (by simp [sumL]) (by rw [upto_zero])⟩
  case round =>
    obtain ⟨k, rfl, hk, hI⟩ := hrel
    have HJ := Lib.hid hI
    clear hI HI4
    have hbd := cnt_bd base n m.regs k
    rcases Nat.lt_or_ge k 8 with hlt | hge
    · obtain ⟨x, hx⟩ : ∃ x, m.regs[k]? = some x := ⟨_, List.getElem?_eq_getElem (by omega)⟩
      have HX := Lib.hid hx
      have HX' := Lib.hid (HOK.out.regs x (List.mem_of_getElem? hx))
      clear hx
      go_wp2_with (go_at_call 62; refine (strike_reg HJ.out HD.out (upto_at HX.out) HX'.out b1 b2 b3 (by omega) (by unfold cntK; omega) (by unfold cntK; omega)).mono ?_; rintro e w5 ⟨rfl, hI5⟩; have HI5 := Lib.hid hI5; clear hI5)
      go_roundw
      case rel => exact ⟨k + 1, by go_num, by omega, HI5.out.cast (by rw [sumL_take HX.out, Int.add_assoc]) (by rw [upto_step HX.out])⟩
      case measure => simp [intOf]; omega
    · have HJ2 := Lib.hid (HJ.out.cast (by rw [List.take_of_length_le (by omega)]) (by rw [upto_end (by omega)]))
      clear HJ
      have hbR := hbd
      rw [List.take_of_length_le (by omega)] at hbR
      have c61 := HJ2.out.c61
      go_wp2_with fail
      go_loopw [12, 58] (fun _ v wr => ∃ k : Nat, v = .int .i64 k ∧ k ≤ m.mem.length ∧ InPl w wr w.heap.size w.heap.size (w.heap.size + 1) w2.heap.size (.slice A1 m.mem.length k1) (.slice A2 m.stack.length k2) vo base n (cntK base n m.code + sumL (cntV base n) m.regs + sumL (cntV base n) (m.mem.take k)) ⟨m.regs.map (swV base n), swK base n m.code, upto (swV base n) m.mem k, m.stack, m.out⟩) (fun _ v _ => (m.mem.length - intOf v).toNat)
      case atStart => exact ⟨0, rfl, by omega, HJ2.out.cast (by simp [sumL]) (by rw [upto_zero])⟩
      case round =>
        rename_i wo
        obtain ⟨k, rfl, hk, hI⟩ := hrel
        have HJ := Lib.hid hI
        clear hI HJ2 c61 hbd
        have hbd := cnt_bd base n m.mem k
        have c61 := HJ.out.c61
        rcases Nat.lt_or_ge k m.mem.length with hlt | hge
        · obtain ⟨x, hx⟩ : ∃ x, m.mem[k]? = some x := ⟨_, List.getElem?_eq_getElem (by omega)⟩
          have HX := Lib.hid hx
          have HX' := Lib.hid (HOK.out.mem x (List.mem_of_getElem? hx))
          obtain ⟨q, rfl, -, -, -, -⟩ := HJ.out.mem.at_ (upto_at hx)
          clear hx
          go_wp2_with (go_at_call 62; refine (strike_mem HJ.out HD.out (upto_at HX.out) HX'.out b1 b2 b3 (by omega) (by unfold cntK; omega) (by unfold cntK; omega)).mono ?_; rintro e w5 ⟨rfl, hI5⟩; have HI5 := Lib.hid hI5; clear hI5)
          go_roundw
          case rel => exact ⟨k + 1, by go_num, by omega, HI5.out.cast (by rw [sumL_take HX.out, Int.add_assoc]) (by rw [upto_step HX.out])⟩
          case measure => simp [intOf]; omega
        · obtain rfl : k = m.mem.length := by omega
          have HJ2 := Lib.hid (HJ.out.cast (by rw [List.take_of_length_le (Nat.le_refl _)]) (by rw [upto_end (Nat.le_refl _)]))
          clear HJ c61
          have hbM := hbd
          rw [List.take_of_length_le (Nat.le_refl _)] at hbM
          have c62 := HJ2.out.c62
          go_wp2_with fail
          go_loopw [13, 71] (fun _ v wr => ∃ k : Nat, v = .int .i64 k ∧ k ≤ m.stack.length ∧ InPl w wr w.heap.size w.heap.size (w.heap.size + 1) w2.heap.size (.slice A1 m.mem.length k1) (.slice A2 m.stack.length k2) vo base n (cntK base n m.code + sumL (cntV base n) m.regs + sumL (cntV base n) m.mem + sumL (cntF base n) (m.stack.take k)) ⟨m.regs.map (swV base n), swK base n m.code, m.mem.map (swV base n), upto (swF base n) m.stack k, m.out⟩) (fun _ v _ => (m.stack.length - intOf v).toNat)
          case atStart => exact ⟨0, rfl, by omega, HJ2.out.cast (by simp [sumL]) (by rw [upto_zero])⟩
          case round =>
            obtain ⟨k, rfl, hk, hI⟩ := hrel
            have HJ := Lib.hid hI
            clear hI HJ2 c62 hbd
            have hbd := cntF_bd base n m.stack k
            have c62 := HJ.out.c62
            rcases Nat.lt_or_ge k m.stack.length with hlt | hge
            · obtain ⟨x, hx⟩ : ∃ x, m.stack[k]? = some x := ⟨_, List.getElem?_eq_getElem (by omega)⟩
              have HX := Lib.hid hx
              have HX' := Lib.hid (HOK.out.stack x (List.mem_of_getElem? hx))
              have hc1 := one01_bd (hitK base n x.code)
              obtain ⟨q, rfl, -, -, -, -⟩ := HJ.out.stk.at_ (upto_at hx)
              clear hx
              go_wp2_with (first | (go_at_call 61; refine (strike_fcode HJ.out HD.out (upto_at HX.out) HX'.out.1 b1 b2 b3 (by omega) (by unfold cntK; omega) (by unfold cntK; omega)).mono ?_; rintro e w5 ⟨rfl, hI5⟩; have HI5 := Lib.hid hI5; have c62' := hI5.c62; clear hI5) | (go_at_call 62; refine (strike_fdata (x := ⟨swK base n x.code, x.data⟩) HI5.out HD.out (List.getElem?_set_self (by rw [upto_len]; omega)) HX'.out.2 b1 b2 b3 (by omega) (by unfold cntK; omega) (by unfold cntK; omega)).mono ?_; rintro e w6 ⟨rfl, hI6⟩; have HI6 := Lib.hid hI6; clear hI6) | fail)
              go_roundw
              case rel => exact ⟨k + 1, by go_num, by omega, HI6.out.cast (by rw [sumL_take HX.out]; unfold cntF; omega) (by rw [List.set_set]; have := upto_step (f := swF base n) HX.out; unfold swF at this ⊢; rw [this])⟩
              case measure => simp [intOf]; omega
            · obtain rfl : k = m.stack.length := by omega
              have HJ2 := Lib.hid (show InPl w wr w.heap.size w.heap.size (w.heap.size + 1) w2.heap.size (.slice A1 m.mem.length k1) (.slice A2 m.stack.length k2) vo base n (sweepN base n m) (sweepM base n m) from HJ.out.cast (by rw [List.take_of_length_le (Nat.le_refl _)]; rfl) (by rw [upto_end (Nat.le_refl _)]; rfl))
              clear HJ c62
              have hI := HJ2.out
              have HBX := Lib.hid hI.box
              have hbr := hI.br
              clear hI
              have H8' := Lib.hid HJ2.out.regs
              have HN := Lib.hid ((hbr.cell 2).trans rfl : wr.cell? ⟨w2.heap.size, 2, none⟩ = some (.int .i64 (sweepN base n m)))
              clear hbr
              go_wp2_with fail
              (refine wp_region_held_drew (S := fun W => Box W w.heap.size 45 (machL (sweepM base n m).regs (sweepM base n m).code (.slice A1 m.mem.length k1) (.slice A2 m.stack.length k2) vo).toArray ∧ W.cell? ⟨w2.heap.size, 2, none⟩ = some (.int .i64 (sweepN base n m))) (by kernel_rfl) ?_ (fun hHeld => ?_))
              exact ⟨HBX.out.drew, HN.out⟩
              (refine takeH (i := 0) rfl (by kernel_rfl) (by kernel_rfl) (by kernel_rfl) (fun _ _ _ _ h => h) (by rfl) (by assumption) ⟨_, fun W hSw => run_load_box 45 (.tmp 3) rfl rfl hSw.1 Try.underlying45 rfl (info_mach H8'.out), ?_⟩; simp only [Act.put, List.setIfInBounds_toArray, List.set_cons_zero, List.set_cons_succ])
              (refine takeH (i := 1) rfl (by kernel_rfl) (by kernel_rfl) (by kernel_rfl) (fun _ _ _ _ h => h) (by rfl) (by assumption) ?_; refine' ⟨_, ?_, ?_⟩; rotate_left; (focus (intro w hSw; (try dsimp only at hSw); go_simp; first | done | with_reducible rfl)); (try simp only [Act.put, List.setIfInBounds_toArray, List.set_cons_zero, List.set_cons_succ]))
              (refine takeH (i := 2) rfl (by kernel_rfl) (by kernel_rfl) (by kernel_rfl) (fun _ _ _ _ h => h) (by rfl) (by assumption) ?_; refine' ⟨_, ?_, ?_⟩; rotate_left; (focus (intro w hSw; (try dsimp only at hSw); go_simp; first | done | with_reducible rfl)); (try simp only [Act.put, List.setIfInBounds_toArray, List.set_cons_zero, List.set_cons_succ]))
              (refine takeH (i := 3) rfl (by kernel_rfl) (by kernel_rfl) (by kernel_rfl) (fun _ _ _ _ h => h) (by rfl) (by assumption) ?_; refine' ⟨_, ?_, ?_⟩; rotate_left; (focus (intro w hSw; (try dsimp only at hSw); go_simp; first | done | with_reducible rfl)); (try simp only [Act.put, List.setIfInBounds_toArray, List.set_cons_zero, List.set_cons_succ]))
              (refine takeH (i := 4) rfl (by kernel_rfl) (by kernel_rfl) (by kernel_rfl) (fun _ _ _ _ h => h) (by rfl) (by assumption) ?_; refine' ⟨_, ?_, ?_⟩; rotate_left; (focus (intro w hSw; (try dsimp only at hSw); go_simp; first | done | with_reducible rfl)); (try simp only [Act.put, List.setIfInBounds_toArray, List.set_cons_zero, List.set_cons_succ]))
              refine oneH (i := 5) (by kernel_rfl) rfl (fun K hK => ?_)
              refine wp_store_box rfl 45 (.tmp 6) (.tmp 89) rfl HJ2.out.res.drew rfl rfl (zeroMC_size.trans (by rw [List.size_toArray, machL_length H8'.out])) (info_mach H8'.out) (machL_one H8'.out rfl rfl HJ2.out.out.one_) ?_
              intro w7 hbw7 hgw7 hzw7
              refine hK.out _ _ ⟨HBX.out.drew.grown hgw7 (fun h => by injection h with h; omega), (World.cell?_of_block (w := wr.drew) (hgw7.block _ HJ2.out.br.lt (fun h => by injection h with h; dsimp only at h; omega))).trans HN.out⟩ (fun hHeld => ?_)
              clear hK K
              simp only [Act.put, List.setIfInBounds_toArray, List.set_cons_zero, List.set_cons_succ]
              (refine takeH (i := 6) rfl (by kernel_rfl) (by kernel_rfl) (by kernel_rfl) (fun _ _ _ _ h => h) (by rfl) (by assumption) ?_; refine' ⟨_, ?_, ?_⟩; rotate_left; (focus (intro w hSw; (try dsimp only at hSw); go_simp; first | done | with_reducible rfl)); (try simp only [Act.put, List.setIfInBounds_toArray, List.set_cons_zero, List.set_cons_succ]))
              (refine takeH (i := 7) rfl (by kernel_rfl) (by kernel_rfl) (by kernel_rfl) (fun _ _ _ _ h => h) (by rfl) (by assumption) ?_; refine' ⟨_, ?_, ?_⟩; rotate_left; (focus (intro w hSw; (try dsimp only at hSw); go_simp; first | done | with_reducible rfl)); (try simp only [Act.put, List.setIfInBounds_toArray, List.set_cons_zero, List.set_cons_succ]))
              refine wpAnyH_done (by kernel_rfl) ?_ _
              have HV := Lib.hid (HJ2.out.val)
              go_wp2_with fail
              (try simp only [Exit.inBlock, Exit.then])
              refine bodyPost_ret (results_ctt rfl rfl hbw7 Try.underlying45 rfl (info_mach H8'.out)) rfl ?_
              exact ⟨_, rfl, machV_own ((HJ2.out.mem.drew).kept hgw7 (.inl HD.out.a2)) ((HJ2.out.stk.drew).kept hgw7 (.inl HD.out.s2)) ((HJ2.out.out.drew).kept hgw7 (.inl HD.out.o2)) H8'.out, (HJ2.out.below.drew).grown hgw7 HJ2.out.lo.1 (fun k hk => by injection hk with hk; omega)⟩
theorem c_sweep_Sweep (mc : Array Value) (m : Mach) (base n : Int) (w : World) (hm : MachV w w.heap.size mc m) :
    Calls Try.prog 31 #[.agg mc, .int .i64 base, .int .i64 n] w (RetMach w (sweepA base n m).1 fun v => .tuple #[v, .int .i64 (sweepA base n m).2.1, .int .i64 (sweepA base n m).2.2]) := by
  cases h0 : (machE m != 0)
  · cases h1 : argsOk base n
    · rw [sweepA_arg h0 h1]; exact sweep_arg mc m base n w hm h0 h1
    · rw [sweepA_ok h0 h1]; exact sweep_ok mc m base n w hm h0 h1
  · rw [sweepA_no h0]; exact sweep_no mc m base n w hm h0
end Go.Proofs.Ytnbppchpgagliaa
