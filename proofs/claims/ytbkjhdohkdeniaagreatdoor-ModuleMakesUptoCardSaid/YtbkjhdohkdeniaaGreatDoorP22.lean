/- What the parts say: The contracts of package inst's Check, Pack and Read. Conditions: Go's table of white space holds what it was laid with; the numbers are numbers of 64 bits. -/
import Derived.Test.YtbkjhdohkdeniaaGreatDoorP21
set_option linter.unusedVariables false
set_option linter.unusedSimpArgs false
namespace Go.Proofs.YtbkjhdohkdeniaaGreatDoor
open Go.RowKit
set_option maxRecDepth 100000
theorem w64 {x : Int} (h : -4611686018427387904 ≤ x ∧ x ≤ 4611686018427387904) : wrap64 x = x := by unfold wrap64; omega
theorem regB_in {n : Int} {has : Bool} (h : regB n has = true) : 0 ≤ n ∧ n ≤ 7 := by
  cases has
  · simp [regB] at h; omega
  · simpa [regB, inR] using h
theorem lowC_in (c : Int) : -2048 ≤ lowC c ∧ highC c ≤ 2047 := by
  unfold lowC highC
  constructor <;> repeat' split
  all_goals omega
theorem instOk_in {i : Inst} (h : instOk i = true) : (0 ≤ i.op ∧ i.op ≤ 22) ∧ (0 ≤ i.a ∧ i.a ≤ 7) ∧ (0 ≤ i.b ∧ i.b ≤ 7) ∧ (-2048 ≤ i.c ∧ i.c ≤ 2047) := by
  simp only [instOk, Bool.and_eq_true, inR_iff] at h
  obtain ⟨⟨⟨h1, h2⟩, h3⟩, h4⟩ := h
  have := lowC_in (shapeN i.op).2.2
  exact ⟨h1, regB_in h2, regB_in h3, by omega⟩
theorem pack_no {i : Inst} (h : instOk i = false) : packF i = (0, 1) := by unfold packF; rw [h]; rfl
theorem pack_ok {i : Inst} (h : instOk i = true) : packF i = (i.op + i.a * 32 + i.b * 256 + (i.c + 2048) * 2048, 0) := by unfold packF; rw [h]; rfl
theorem instE_no {i : Inst} (h : instOk i = false) : instE i = 1 := by simp [instE, h]
theorem instE_ok {i : Inst} (h : instOk i = true) : instE i = 0 := by simp [instE, h]
theorem shapeN_c (op : Int) : 0 ≤ (shapeN op).2.2 ∧ (shapeN op).2.2 ≤ 5 := by
  unfold shapeN
  repeat' split
  all_goals decide
set_option maxHeartbeats 8000000 in
theorem c_inst_Check (i : Inst) (w : World) (hE : Env w) : Calls Tryz.prog 84 #[.agg #[.int .i64 i.op, .int .i64 i.a, .int .i64 i.b, .int .i64 i.c]] w (Ret (.int .i64 (instE i)) w) := by
  by_cases hop : 0 ≤ i.op ∧ i.op ≤ 22
  · have hS := Lib.hid (fun w' h => c_shapeOf i.op w' h hop.1 hop.2)
    have hB := Lib.hid (fun w' => c_bounds (shapeN i.op).2.2 w' (shapeN_c i.op))
    have hr : instE i = if (regB i.a (shapeN i.op).1 && (regB i.b (shapeN i.op).2.1 && (decide (lowC (shapeN i.op).2.2 ≤ i.c) && decide (i.c ≤ highC (shapeN i.op).2.2)))) = true then 0 else 1 := by
      unfold instE instOk
      rw [inR_iff.2 hop]
      simp only [Bool.true_and, inR, Bool.and_assoc]
    generalize instE i = r at *
    generalize shapeN i.op = sh at *
    obtain ⟨ba, bb, cc⟩ := sh
    dsimp only at *
    generalize lowC cc = lo at *
    generalize highC cc = hi at *
    generalize cByte cc = cb at *
    generalize wordOf i.op = wd at *
    have HR := Lib.hid hr
    clear hr
    go_enter Tryz.func84, Tryz.ntmps84
    have hI := Inv.start w
    go_wp2_with (first | (refine listI rfl fun K hK => wpI_box _ _ rfl hI rfl fun gx w' hI' hb => hK _ _ ?_; clear hK K; (try clear hb); clear hI; have hI := hI'; clear hI'; (try simp only [mm, Act.put, Act.eval] at hI); (try clear c0); (try clear c1); (try clear c2); (try clear c3); (try clear c4); (try clear c5); (try have c0 := hI.cell (i := 0) rfl); (try have c1 := hI.cell (i := 1) rfl); (try have c2 := hI.cell (i := 2) rfl); (try have c3 := hI.cell (i := 3) rfl); (try have c4 := hI.cell (i := 4) rfl); (try have c5 := hI.cell (i := 5) rfl); skip) | (refine listI rfl fun K hK => wpI_box1 _ _ rfl hI rfl rfl fun gx w' hI' hb => hK _ _ ?_; clear hK K; (try clear hb); clear hI; have hI := hI'; clear hI'; (try simp only [mm, Act.put, Act.eval] at hI); (try clear c0); (try clear c1); (try clear c2); (try clear c3); (try clear c4); (try clear c5); (try have c0 := hI.cell (i := 0) rfl); (try have c1 := hI.cell (i := 1) rfl); (try have c2 := hI.cell (i := 2) rfl); (try have c3 := hI.cell (i := 3) rfl); (try have c4 := hI.cell (i := 4) rfl); (try have c5 := hI.cell (i := 5) rfl); skip) | (refine listI rfl fun K hK => wpI_alloc 226 rfl hI Tryz.zeroValue226 (cs := #[.string ⟨#[]⟩, .bool false, .bool false, .int .u8 0]) (by first | rfl | kernel_rfl) fun gx w' hI' hb => hK _ _ ?_; clear hK K; (try clear hb); clear hI; have hI := hI'; clear hI'; (try simp only [mm, Act.put, Act.eval] at hI); (try clear c0); (try clear c1); (try clear c2); (try clear c3); (try clear c4); (try clear c5); (try have c0 := hI.cell (i := 0) rfl); (try have c1 := hI.cell (i := 1) rfl); (try have c2 := hI.cell (i := 2) rfl); (try have c3 := hI.cell (i := 3) rfl); (try have c4 := hI.cell (i := 4) rfl); (try have c5 := hI.cell (i := 5) rfl); skip) | (refine listI rfl fun K hK => wpI_storeW _ _ _ rfl hI rfl 1 rfl rfl rfl (by kernel_rfl) (by simp [Value.oneCell']) fun w' hI' => hK _ _ ?_; clear hK K; (try clear hb); clear hI; have hI := hI'; clear hI'; (try simp only [mm, Act.put, Act.eval] at hI); (try clear c0); (try clear c1); (try clear c2); (try clear c3); (try clear c4); (try clear c5); (try have c0 := hI.cell (i := 0) rfl); (try have c1 := hI.cell (i := 1) rfl); (try have c2 := hI.cell (i := 2) rfl); (try have c3 := hI.cell (i := 3) rfl); (try have c4 := hI.cell (i := 4) rfl); (try have c5 := hI.cell (i := 5) rfl); skip) | (go_at_call 151; (with_reducible refine (hS.out _ (hE.inv hI)).mono ?_); intro e w' hr; obtain ⟨rfl, hb⟩ := hr; have hI' := hI.on hb; (try clear hb); clear hI; have hI := hI'; clear hI'; (try simp only [mm, Act.put, Act.eval] at hI); (try clear c0); (try clear c1); (try clear c2); (try clear c3); (try clear c4); (try clear c5); (try have c0 := hI.cell (i := 0) rfl); (try have c1 := hI.cell (i := 1) rfl); (try have c2 := hI.cell (i := 2) rfl); (try have c3 := hI.cell (i := 3) rfl); (try have c4 := hI.cell (i := 4) rfl); (try have c5 := hI.cell (i := 5) rfl); skip) | (go_at_call 152; (with_reducible refine (hB.out _).mono ?_); rintro e w1 ⟨rfl, rfl⟩) | (go_at_call 153; (with_reducible refine (c_reg _ _ _).mono ?_); rintro e w1 ⟨rfl, rfl⟩) | fail)
    all_goals
      go_returns
      refine Ret.int ?_ hI.below
      have hr := HR.out
      clear HR hB hS hI
      rw [hr]
      clear hr
      first
        | (rw [if_pos (by simp [*] <;> omega)]; done)
        | (rw [if_neg (by simp [*] <;> omega)]; done)
        | trace_state
  · have hS := Lib.hid (fun w' h => c_shapeOf_no i.op w' h (by omega))
    have hB0 : (∀ w' : World, Calls Tryz.prog 152 #[.int .u8 0] w' fun e w'' => e = .returned (.tuple #[.int .i64 0, .int .i64 0]) ∧ w' = w'') := (fun w' => c_bounds 0 w' (by decide))
    have hB := Lib.hid hB0
    clear hB0
    have hr : instE i = 1 := instE_no (by unfold instOk; rw [inR_not.2 (by omega)]; rfl)
    generalize instE i = r at *
    subst hr
    go_enter Tryz.func84, Tryz.ntmps84
    have hI := Inv.start w
    go_wp2_with (first | (refine listI rfl fun K hK => wpI_box _ _ rfl hI rfl fun gx w' hI' hb => hK _ _ ?_; clear hK K; (try clear hb); clear hI; have hI := hI'; clear hI'; (try simp only [mm, Act.put, Act.eval] at hI); (try clear c0); (try clear c1); (try clear c2); (try clear c3); (try clear c4); (try clear c5); (try have c0 := hI.cell (i := 0) rfl); (try have c1 := hI.cell (i := 1) rfl); (try have c2 := hI.cell (i := 2) rfl); (try have c3 := hI.cell (i := 3) rfl); (try have c4 := hI.cell (i := 4) rfl); (try have c5 := hI.cell (i := 5) rfl); skip) | (refine listI rfl fun K hK => wpI_box1 _ _ rfl hI rfl rfl fun gx w' hI' hb => hK _ _ ?_; clear hK K; (try clear hb); clear hI; have hI := hI'; clear hI'; (try simp only [mm, Act.put, Act.eval] at hI); (try clear c0); (try clear c1); (try clear c2); (try clear c3); (try clear c4); (try clear c5); (try have c0 := hI.cell (i := 0) rfl); (try have c1 := hI.cell (i := 1) rfl); (try have c2 := hI.cell (i := 2) rfl); (try have c3 := hI.cell (i := 3) rfl); (try have c4 := hI.cell (i := 4) rfl); (try have c5 := hI.cell (i := 5) rfl); skip) | (refine listI rfl fun K hK => wpI_alloc 226 rfl hI Tryz.zeroValue226 (cs := #[.string ⟨#[]⟩, .bool false, .bool false, .int .u8 0]) (by first | rfl | kernel_rfl) fun gx w' hI' hb => hK _ _ ?_; clear hK K; (try clear hb); clear hI; have hI := hI'; clear hI'; (try simp only [mm, Act.put, Act.eval] at hI); (try clear c0); (try clear c1); (try clear c2); (try clear c3); (try clear c4); (try clear c5); (try have c0 := hI.cell (i := 0) rfl); (try have c1 := hI.cell (i := 1) rfl); (try have c2 := hI.cell (i := 2) rfl); (try have c3 := hI.cell (i := 3) rfl); (try have c4 := hI.cell (i := 4) rfl); (try have c5 := hI.cell (i := 5) rfl); skip) | (refine listI rfl fun K hK => wpI_storeW _ _ _ rfl hI rfl 1 rfl rfl rfl (by kernel_rfl) (by simp [Value.oneCell']) fun w' hI' => hK _ _ ?_; clear hK K; (try clear hb); clear hI; have hI := hI'; clear hI'; (try simp only [mm, Act.put, Act.eval] at hI); (try clear c0); (try clear c1); (try clear c2); (try clear c3); (try clear c4); (try clear c5); (try have c0 := hI.cell (i := 0) rfl); (try have c1 := hI.cell (i := 1) rfl); (try have c2 := hI.cell (i := 2) rfl); (try have c3 := hI.cell (i := 3) rfl); (try have c4 := hI.cell (i := 4) rfl); (try have c5 := hI.cell (i := 5) rfl); skip) | (go_at_call 151; (with_reducible refine (hS.out _ (hE.inv hI)).mono ?_); intro e w' hr; obtain ⟨rfl, hb⟩ := hr; have hI' := hI.on hb; (try clear hb); clear hI; have hI := hI'; clear hI'; (try simp only [mm, Act.put, Act.eval] at hI); (try clear c0); (try clear c1); (try clear c2); (try clear c3); (try clear c4); (try clear c5); (try have c0 := hI.cell (i := 0) rfl); (try have c1 := hI.cell (i := 1) rfl); (try have c2 := hI.cell (i := 2) rfl); (try have c3 := hI.cell (i := 3) rfl); (try have c4 := hI.cell (i := 4) rfl); (try have c5 := hI.cell (i := 5) rfl); skip) | (go_at_call 152; (with_reducible refine (hB.out _).mono ?_); rintro e w1 ⟨rfl, rfl⟩) | (go_at_call 153; (with_reducible refine (c_reg _ _ _).mono ?_); rintro e w1 ⟨rfl, rfl⟩) | fail)
    go_returns
    exact Ret.int rfl hI.below
set_option maxHeartbeats 1000000 in
theorem c_inst_Pack (i : Inst) (w : World) (hE : Env w) : Calls Tryz.prog 32 #[.agg #[.int .i64 i.op, .int .i64 i.a, .int .i64 i.b, .int .i64 i.c]] w (Ret (.tuple #[.int .i64 (packF i).1, .int .i64 (packF i).2]) w) := by
  cases hok : instOk i
  · have hp : packF i = (0, 1) := by unfold packF; rw [hok]; rfl
    rw [hp]
    have hC := Lib.hid (fun w' h => instE_no hok ▸ c_inst_Check i w' h)
    clear hok hp
    go_enter Tryz.func32, Tryz.ntmps32
    have hI := Inv.start w
    go_wp2_with (first | (refine listI rfl fun K hK => wpI_box _ _ rfl hI rfl fun gx w' hI' hb => hK _ _ ?_; clear hK K; (try clear hb); clear hI; have hI := hI'; clear hI'; (try simp only [mm, Act.put, Act.eval] at hI); (try clear c0); (try clear c1); (try clear c2); (try clear c3); (try clear c4); (try clear c5); (try have c0 := hI.cell (i := 0) rfl); (try have c1 := hI.cell (i := 1) rfl); (try have c2 := hI.cell (i := 2) rfl); (try have c3 := hI.cell (i := 3) rfl); (try have c4 := hI.cell (i := 4) rfl); (try have c5 := hI.cell (i := 5) rfl); skip) | (refine listI rfl fun K hK => wpI_box1 _ _ rfl hI rfl rfl fun gx w' hI' hb => hK _ _ ?_; clear hK K; (try clear hb); clear hI; have hI := hI'; clear hI'; (try simp only [mm, Act.put, Act.eval] at hI); (try clear c0); (try clear c1); (try clear c2); (try clear c3); (try clear c4); (try clear c5); (try have c0 := hI.cell (i := 0) rfl); (try have c1 := hI.cell (i := 1) rfl); (try have c2 := hI.cell (i := 2) rfl); (try have c3 := hI.cell (i := 3) rfl); (try have c4 := hI.cell (i := 4) rfl); (try have c5 := hI.cell (i := 5) rfl); skip) | (go_at_call 84; (with_reducible refine (hC.out _ (hE.inv hI)).mono ?_); intro e w' hr; obtain ⟨rfl, hb⟩ := hr; have hI' := hI.on hb; (try clear hb); clear hI; have hI := hI'; clear hI'; (try simp only [mm, Act.put, Act.eval] at hI); (try clear c0); (try clear c1); (try clear c2); (try clear c3); (try clear c4); (try clear c5); (try have c0 := hI.cell (i := 0) rfl); (try have c1 := hI.cell (i := 1) rfl); (try have c2 := hI.cell (i := 2) rfl); (try have c3 := hI.cell (i := 3) rfl); (try have c4 := hI.cell (i := 4) rfl); (try have c5 := hI.cell (i := 5) rfl); skip) | fail)
    go_returns
    exact Ret.mk rfl hI.below
  · have hp : packF i = (i.op + i.a * 32 + i.b * 256 + (i.c + 2048) * 2048, 0) := by unfold packF; rw [hok]; rfl
    rw [hp]
    have hC := Lib.hid (fun w' h => instE_ok hok ▸ c_inst_Check i w' h)
    have hO := Lib.hid hok
    clear hok hp
    go_enter Tryz.func32, Tryz.ntmps32
    have hI := Inv.start w
    go_wp2_with (first | (refine listI rfl fun K hK => wpI_box _ _ rfl hI rfl fun gx w' hI' hb => hK _ _ ?_; clear hK K; (try clear hb); clear hI; have hI := hI'; clear hI'; (try simp only [mm, Act.put, Act.eval] at hI); (try clear c0); (try clear c1); (try clear c2); (try clear c3); (try clear c4); (try clear c5); (try have c0 := hI.cell (i := 0) rfl); (try have c1 := hI.cell (i := 1) rfl); (try have c2 := hI.cell (i := 2) rfl); (try have c3 := hI.cell (i := 3) rfl); (try have c4 := hI.cell (i := 4) rfl); (try have c5 := hI.cell (i := 5) rfl); skip) | (refine listI rfl fun K hK => wpI_box1 _ _ rfl hI rfl rfl fun gx w' hI' hb => hK _ _ ?_; clear hK K; (try clear hb); clear hI; have hI := hI'; clear hI'; (try simp only [mm, Act.put, Act.eval] at hI); (try clear c0); (try clear c1); (try clear c2); (try clear c3); (try clear c4); (try clear c5); (try have c0 := hI.cell (i := 0) rfl); (try have c1 := hI.cell (i := 1) rfl); (try have c2 := hI.cell (i := 2) rfl); (try have c3 := hI.cell (i := 3) rfl); (try have c4 := hI.cell (i := 4) rfl); (try have c5 := hI.cell (i := 5) rfl); skip) | (go_at_call 84; (with_reducible refine (hC.out _ (hE.inv hI)).mono ?_); intro e w' hr; obtain ⟨rfl, hb⟩ := hr; have hI' := hI.on hb; (try clear hb); clear hI; have hI := hI'; clear hI'; (try simp only [mm, Act.put, Act.eval] at hI); (try clear c0); (try clear c1); (try clear c2); (try clear c3); (try clear c4); (try clear c5); (try have c0 := hI.cell (i := 0) rfl); (try have c1 := hI.cell (i := 1) rfl); (try have c2 := hI.cell (i := 2) rfl); (try have c3 := hI.cell (i := 3) rfl); (try have c4 := hI.cell (i := 4) rfl); (try have c5 := hI.cell (i := 5) rfl); skip) | fail)
    obtain ⟨h1, h2, h3, h4⟩ := instOk_in hO.out
    go_returns
    refine Ret.mk ?_ hI.below
    rw [w64 (x := i.a * 32) (by omega), w64 (x := i.b * 256) (by omega), w64 (x := i.c + 2047) (by omega), w64 (x := i.c + 2047 + 1) (by omega), w64 (x := (i.c + 2047 + 1) * 2048) (by omega), w64 (x := i.op + i.a * 32) (by omega), w64 (x := i.op + i.a * 32 + i.b * 256) (by omega), w64 (x := i.op + i.a * 32 + i.b * 256 + (i.c + 2047 + 1) * 2048) (by omega), Int.add_assoc i.c]
    rfl
end Go.Proofs.YtbkjhdohkdeniaaGreatDoor
