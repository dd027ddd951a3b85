/- The reference's Run. Conditions: Go's tables hold what they were laid with; the machine's numbers are numbers. Run, the program's and the reference's, as one plain function. Conditions: Go's tables hold what they were laid with. -/
import Derived.Test.YthmpnnfejghhfaaGreatDoorQ11
import Derived.Test.YthmpnnfejghhfaaGreatDoorP44
import Derived.Test.YthmpnnfejghhfaaGreatDoorP47
namespace Go.Proofs.YthmpnnfejghhfaaGreatDoor
open Go.RowKit
set_option linter.unusedVariables false
set_option linter.unusedSimpArgs false
set_option maxRecDepth 100000
section
variable {P : Program} {fn : Func} {tmps : Array Value} {w : World} {g : Nat} {t ty : TypeId} {cs : Array Value} {d : TypeDesc} {p q r s : Tmp}
theorem results_cttt (h : fn.results = #[.cell p ty, .tmp q, .tmp r, .tmp s]) (hp : tmps.getD p undef = .pointer (some ⟨g, 0, none⟩)) (hg : Box w g t cs) (hu : P.underlying ty = some d) (hd : (match d with | .struct _ | .array _ _ => true | _ => false) = true) (hi : (P.info? ty).map (·.size) = some cs.size) :
    (results fn tmps).run P w = .ok (.tuple #[.agg cs, tmps.getD q undef, tmps.getD r undef, tmps.getD s undef]) w := by
  have hp' : tmps[p]?.getD undef = .pointer (some ⟨g, 0, none⟩) := by simpa using hp
  simp [results, h, hp', asAddr, run_loadVar_row w g t ty cs (0, 0) d hg hu hd hi]
end
def RetRun (w : World) (m : Mach) (xs : List Int) (e : Int) (ran : Bool) : Ending → World → Prop := fun ed w' => ∃ mc A cp, ed = .returned (.tuple #[.agg mc, .slice A xs.length cp, .int .i64 e, .bool ran]) ∧ MachV w' w'.heap.size mc m ∧ Lies encI 1 w' w'.heap.size A xs ∧ Below w.heap.size w w'
def RetRR (w : World) (m : Mach) (xs : List Int) (e : Int) (ran : Bool) : Ending → World → Prop := fun ed w' => ∃ va vs vo A cp, m.regs.length = 8 ∧ ed = .returned (.tuple #[.agg (machL m.regs m.code va vs vo).toArray, .slice A xs.length cp, .int .i64 e, .bool ran]) ∧
  Inv w [.row 25 7 va m.mem.length (m.mem.flatMap encV), .row 73 12 vs m.stack.length (m.stack.flatMap encF), .row 3 1 vo m.out.length (m.out.flatMap encI), .row 3 1 (.slice A xs.length cp) xs.length (xs.flatMap encI)] w'
theorem RetRR.run {w w' : World} {m : Mach} {xs : List Int} {e : Int} {ran : Bool} {ed : Ending} (h : RetRR w m xs e ran ed w') : RetRun w m xs e ran ed w' := by
  obtain ⟨va, vs, vo, A, cp, h8, rfl, hI⟩ := h
  exact ⟨_, A, cp, rfl, machV_own (InvT.own0 (enc := encV) (xs := m.mem) (size := 7) hI (i := 0) rfl) (InvT.own0 (enc := encF) (xs := m.stack) (size := 12) hI (i := 1) rfl) (InvT.own0 (enc := encI) (xs := m.out) (size := 1) hI (i := 2) rfl) h8, (InvT.own0 (enc := encI) (xs := xs) (size := 1) hI (i := 3) rfl).liesB (fun _ => rfl) rfl, hI.below⟩
theorem RetRR.zero {w w' : World} {e : Int} (hb : Below w.heap.size w w') : RetRR w Mach.zero [] e false (.returned (.tuple #[.agg zeroMC, .slice none 0 0, .int .i64 e, .bool false])) w' :=
  ⟨nilS, nilS, nilS, none, 0, rfl, rfl, ((((Inv.start w).on hb).nilrow _ _).nilrow _ _ |>.nilrow _ _).nilrow _ _⟩
theorem r_Run_arg (mc : Array Value) (fuel : Int) (w : World) (hf : inR fuel 0 5000 = false) (hsz : mc.size = 64) :
    Calls Tryz.prog 17 #[.agg mc, .int .i64 fuel] w (RetRR w Mach.zero [] 1 false) := by
  go_enter Tryz.func17, Tryz.ntmps17
  have hI := Inv.start w
  go_wp2_with (first | (refine listI rfl fun K hK => wpI_box _ _ rfl hI rfl fun gx w' hI' hb => hK _ _ ?_; clear hK K; (try clear hb); replace hI := hI'; clear hI'; replace cF := hI.facts; (try simp only [mm, Act.put, Act.eval] at hI cF)) | (refine listI rfl fun K hK => wpI_box1 _ _ rfl hI rfl rfl fun gx w' hI' hb => hK _ _ ?_; clear hK K; (try clear hb); replace hI := hI'; clear hI'; replace cF := hI.facts; (try simp only [mm, Act.put, Act.eval] at hI cF)) | (refine listI rfl fun K hK => wpI_alloc 31 rfl hI Tryz.zeroValue31 (cs := zeroMC) (by first | rfl | kernel_rfl) fun gx w' hI' hb => hK _ _ ?_; clear hK K; (try clear hb); replace hI := hI'; clear hI'; replace cF := hI.facts; (try simp only [mm, Act.put, Act.eval] at hI cF)) | (go_at_call 38; (with_reducible refine (r_outside _ _ _ _).mono ?_); rintro e w1 ⟨rfl, rfl⟩) | (refine listI rfl fun K hK => wpI_storeW _ _ _ rfl hI rfl 1 rfl rfl rfl (by kernel_rfl) (by simp [Value.oneCell']) fun w' hI' => hK _ _ ?_; clear hK K; (try clear hb); replace hI := hI'; clear hI'; replace cF := hI.facts; (try simp only [mm, Act.put, Act.eval] at hI cF)) | fail)
  have hbx := hI.box (i := 1) rfl
  refine bodyPost_ret (results_cttt rfl rfl hbx Tryz.underlying31 rfl (by kernel_rfl)) rfl ?_
  exact RetRR.zero hI.below
theorem r_Run_no (mc : Array Value) (m : Mach) (hwf : m.Wf) (fuel : Int) (w : World) (hm : MachV w w.heap.size mc m) (hf : inR fuel 0 5000 = true) (h0 : (machE m != 0) = true) :
    Calls Tryz.prog 17 #[.agg mc, .int .i64 fuel] w (RetRR w Mach.zero [] (machE m) false) := by
  have HM := Lib.hid hm
  have hsz := hm.size
  clear hm
  go_enter Tryz.func17, Tryz.ntmps17
  have hI := Inv.start w
  go_wp2_with (first | (refine listI rfl fun K hK => wpI_box _ _ rfl hI rfl fun gx w' hI' hb => hK _ _ ?_; clear hK K; (try clear hb); replace hI := hI'; clear hI'; replace cF := hI.facts; (try simp only [mm, Act.put, Act.eval] at hI cF)) | (refine listI rfl fun K hK => wpI_box1 _ _ rfl hI rfl rfl fun gx w' hI' hb => hK _ _ ?_; clear hK K; (try clear hb); replace hI := hI'; clear hI'; replace cF := hI.facts; (try simp only [mm, Act.put, Act.eval] at hI cF)) | (refine listI rfl fun K hK => wpI_alloc 31 rfl hI Tryz.zeroValue31 (cs := zeroMC) (by first | rfl | kernel_rfl) fun gx w' hI' hb => hK _ _ ?_; clear hK K; (try clear hb); replace hI := hI'; clear hI'; replace cF := hI.facts; (try simp only [mm, Act.put, Act.eval] at hI cF)) | (refine wpList_load_box rfl 31 _ rfl (hI.box (i := 0) rfl) rfl Tryz.underlying31 rfl (by first | exact info_mach (by assumption) | (simp only [hsz1]; kernel_rfl) | (simp only [hsz2]; kernel_rfl) | (simp only [hsz]; kernel_rfl) | kernel_rfl) ?_) | (go_at_call 38; (with_reducible refine (r_outside _ _ _ _).mono ?_); rintro e w1 ⟨rfl, rfl⟩) | (go_at_call 30; (with_reducible refine (r_StepCheck mc m hwf _ (hI.mach HM.out)).mono ?_); intro e w' hr; obtain ⟨rfl, hb⟩ := hr; have hI' := hI.on hb; (try clear hb); replace hI := hI'; clear hI'; replace cF := hI.facts; (try simp only [mm, Act.put, Act.eval] at hI cF)) | (refine listI rfl fun K hK => wpI_storeW _ _ _ rfl hI rfl 1 rfl rfl rfl (by kernel_rfl) (by simp [Value.oneCell']) fun w' hI' => hK _ _ ?_; clear hK K; (try clear hb); replace hI := hI'; clear hI'; replace cF := hI.facts; (try simp only [mm, Act.put, Act.eval] at hI cF)) | fail)
  have hbx := hI.box (i := 1) rfl
  refine bodyPost_ret (results_cttt rfl rfl hbx Tryz.underlying31 rfl (by kernel_rfl)) rfl ?_
  exact RetRR.zero hI.below
set_option maxHeartbeats 8000000 in
theorem r_Run_ok (mc : Array Value) (m : Mach) (hwf : m.Wf) (f : Nat) (w : World) (hm : MachV w w.heap.size mc m) (hE : Env w) (hf : inR f 0 5000 = true) (h0 : (machE m != 0) = false) :
    Calls Tryz.prog 17 #[.agg mc, .int .i64 f] w (RetRR w (runN m f).1 (placesN m f) (runN m f).2 true) := by
  have HM := Lib.hid hm
  have hsz := hm.size
  have HE := Lib.hid hE
  have HOK := Lib.hid (machE_ok h0)
  have hf5 : f ≤ 5000 := by have := inR_iff.1 hf; omega
  clear hm hE
  go_enter Tryz.func17, Tryz.ntmps17
  have hI := Inv.start w
  go_wp2_with (first
    | ((first | (refine listI rfl fun K hK => wpI_box _ _ rfl hI rfl fun gx w' hI' hb => hK _ _ ?_; clear hK K; (try clear hb); replace hI := hI'; clear hI'; replace cF := hI.facts; (try simp only [mm, Act.put, Act.eval] at hI cF)) | (refine listI rfl fun K hK => wpI_box1 _ _ rfl hI rfl rfl fun gx w' hI' hb => hK _ _ ?_; clear hK K; (try clear hb); replace hI := hI'; clear hI'; replace cF := hI.facts; (try simp only [mm, Act.put, Act.eval] at hI cF))); obtain ⟨gm, rfl⟩ : ∃ y, y = gx := ⟨_, rfl⟩) | ((refine listI rfl fun K hK => wpI_alloc 31 rfl hI Tryz.zeroValue31 (cs := zeroMC) (by first | rfl | kernel_rfl) fun gx w' hI' hb => hK _ _ ?_; clear hK K; (try clear hb); replace hI := hI'; clear hI'; replace cF := hI.facts; (try simp only [mm, Act.put, Act.eval] at hI cF)); obtain ⟨gr, rfl⟩ : ∃ y, y = gx := ⟨_, rfl⟩) | (refine wpList_load_box rfl 31 _ rfl (hI.box (i := 0) rfl) rfl Tryz.underlying31 rfl (by first | exact info_mach (by assumption) | (simp only [hsz1]; kernel_rfl) | (simp only [hsz2]; kernel_rfl) | (simp only [hsz]; kernel_rfl) | kernel_rfl) ?_) | (go_at_call 38; (with_reducible refine (r_outside _ _ _ _).mono ?_); rintro e w1 ⟨rfl, rfl⟩) | (go_at_call 30; (with_reducible refine (r_StepCheck mc m hwf _ (hI.mach HM.out)).mono ?_); intro e w' hr; obtain ⟨rfl, hb⟩ := hr; have hI' := hI.on hb; (try clear hb); replace hI := hI'; clear hI'; replace cF := hI.facts; (try simp only [mm, Act.put, Act.eval] at hI cF))
    | (go_at_call 39; refine (r_MachineCopy mc m _ (hI.mach HM.out) HOK.out.len HOK.out.deep (Nat.le_succ_of_le HOK.out.outs)).mono ?_; rintro e w2 ⟨h8, va, vs, vo, rfl, hI2⟩; have hb := hI2.below; have hI' := hI.join hI2; clear hI2; (try clear hb); replace hI := hI'; clear hI'; replace cF := hI.facts; (try simp only [mm, Act.put, Act.eval] at hI cF))
    | (refine listI rfl fun K hK => wpI_storeW _ _ _ rfl hI rfl 0 rfl rfl (by rw [hsz, List.size_toArray, machL_length h8]) (info_mach h8) (machL_one h8 (hI.one (i := 2) rfl) (hI.one (i := 3) rfl) (hI.one (i := 4) rfl)) fun w' hI' => hK _ _ ?_; clear hK K; (try clear hb); replace hI := hI'; clear hI'; replace cF := hI.facts; (try simp only [mm, Act.put, Act.eval] at hI cF))
    | fail)
  clear hsz
  replace hI := hI.nilrow 3 1
  simp only [List.cons_append, List.nil_append] at hI
  go_loopw [9, 10, 11, 24] (fun v9 _ _ v wr => ∃ (j : Nat) (mj : Mach) (va vs vo : Value) (xs : List Int), v = .int .i64 j ∧ j ≤ f ∧ MachOk mj ∧ mj.regs.length = 8 ∧ runN m f = runN mj (f - j) ∧ placesN m f = xs ++ placesN mj (f - j) ∧ xs.length = j ∧
      Inv w [.box gm 31 (machL mj.regs mj.code va vs vo).toArray, .box gr 31 zeroMC, .row 25 7 va mj.mem.length (mj.mem.flatMap encV), .row 73 12 vs mj.stack.length (mj.stack.flatMap encF), .row 3 1 vo mj.out.length (mj.out.flatMap encI), .row 3 1 v9 xs.length (xs.flatMap encI)] wr) (fun _ _ _ v _ => (f - intOf v).toNat)
  case atStart => exact ⟨0, m, va, vs, vo, [], rfl, by omega, HOK.out, h8, rfl, rfl, rfl, hI⟩
  case round =>
    clear hI cF h8
    obtain ⟨j, mj, va, vs, vo, xs, rfl, hj, hMj, h8j, hrun, hpl, hxl, hI⟩ := hrel
    have HMJ := Lib.hid hMj
    have HRU := Lib.hid hrun
    have HPL := Lib.hid hpl
    have HXL := Lib.hid hxl
    clear hMj hrun hpl hxl
    have hsz : (machL mj.regs mj.code va vs vo).toArray.size = 64 := by rw [List.size_toArray]; exact machL_length h8j
    have p59 : (machL mj.regs mj.code va vs vo).toArray[59]? = some (.int .i64 mj.code.pos) := by rw [List.getElem?_toArray]; exact machL_59 h8j
    rcases Nat.lt_or_ge j f with hlt | hge
    · have hkz : (j : Int) < f := by omega
      obtain ⟨k, hk⟩ : ∃ k, f - j = k + 1 := ⟨f - j - 1, by omega⟩
      have HR := Lib.hid (fun w h1 h2 => r_step (machL mj.regs mj.code va vs vo).toArray mj w h1 HMJ.out h2)
      by_cases he : (oneF mj).2 = 0
      · have HSZ := Lib.hid hsz
        clear hsz
        have hry := runN_yes (f := k) he
        have hru2 := HRU.out
        have hpl2 := HPL.out
        rw [hk, hry.1] at hru2
        rw [hk, hry.2] at hpl2
        have HRU2 := Lib.hid hru2
        have HPL2 := Lib.hid hpl2
        have HOK2 := Lib.hid (oneF_ok HMJ.out he)
        have HQ := Lib.hid he
        clear hru2 hpl2 hry he HRU HPL
        generalize oneF mj = q at *
        obtain ⟨m2, qe⟩ := q
        dsimp only at HQ HOK2 HRU2 HPL2
        obtain rfl : qe = 0 := HQ.out
        have cF := hI.facts; (try simp only [mm] at cF)
        go_wp2_with (first
          | (refine wpList_load_box rfl 31 _ rfl (hI.box (i := 0) rfl) rfl Tryz.underlying31 rfl (by first | exact info_mach (by assumption) | (simp only [hsz1]; kernel_rfl) | (simp only [hsz2]; kernel_rfl) | (simp only [hsz]; kernel_rfl) | kernel_rfl) ?_)
          | (go_at_call 31
             refine (HR.out _ (machV_own (InvT.own0 (enc := encV) (xs := mj.mem) (size := 7) hI (i := 2) rfl) (InvT.own0 (enc := encF) (xs := mj.stack) (size := 12) hI (i := 3) rfl) (InvT.own0 (enc := encI) (xs := mj.out) (size := 1) hI (i := 4) rfl) h8j) (HE.out.inv hI)).mono ?_
             rintro e w2 (⟨-, h82, va2, vs2, vo2, rfl, hI2⟩ | ⟨h, -⟩)
             rotate_left
             · exact absurd rfl h
             dsimp only at h82 hI2
             have hb := hI2.below
             have hI' := hI.join hI2
             clear hI2
             (try clear hb); replace hI := hI'; clear hI'; replace cF := hI.facts; (try simp only [mm, Act.put, Act.eval] at hI cF)
             have hsz1 : (machL m2.regs m2.code va2 vs2 vo2).toArray.size = 64 := (by rw [List.size_toArray]; exact machL_length h82)
             have HO1 := Lib.hid (machL_one (regs := m2.regs) (k := m2.code) h82 (hI.one (i := 6) rfl) (hI.one (i := 7) rfl) (hI.one (i := 8) rfl)))
          | (refine lv 31 hI Tryz.zeroValue31 fun gx w' hI' hb => ?_; (try clear hb); replace hI := hI'; clear hI'; replace cF := hI.facts; (try simp only [mm, Act.put, Act.eval] at hI cF))
          | fail)
        (refine wp_region_KG 8 [0, 9] (by kernel_rfl) hI fun w' hI' hHeld => ?_; (try clear hb); replace hI := hI'; clear hI'; replace cF := hI.facts; (try simp only [mm, Act.put, Act.eval] at hI cF))
        (refine takeGp (i := 0) rfl (by kernel_rfl) (by kernel_rfl) (by kernel_rfl) (fun _ _ _ _ h => h) (by rfl) (by assumption) ?_; refine' ⟨_, ?_, ?_⟩; rotate_left; (focus (intro w; go_simp; first | done | with_reducible rfl)); (try simp only [Act.put, List.setIfInBounds_toArray, List.set_cons_zero, List.set_cons_succ]))
        (refine tg 1 ?_; (try simp only [np, Act.put])); (refine tg 2 ?_; (try simp only [np, Act.put])); (refine tg 3 ?_; (try simp only [np, Act.put]))
        (refine takeG (i := 6) rfl (by kernel_rfl) (by kernel_rfl) (by kernel_rfl) (fun _ _ _ _ h => h) (by rfl) (by assumption) ⟨_, fun W hSw => run_load_box 31 (.tmp 10) rfl rfl (hSw.box 9 (by decide) rfl) Tryz.underlying31 rfl (by first | exact info_mach (by assumption) | (simp only [hsz1]; kernel_rfl)), ?_⟩; (try simp only [Act.put, List.setIfInBounds_toArray, List.set_cons_zero, List.set_cons_succ]))
        refine oneG (i := 4) (by kernel_rfl) rfl (fun K hK => ?_)
        (refine stepI rfl (wpI_slice1 29 3 _ rfl hI Tryz.underlying29 rfl (size := 1) (by kernel_rfl) rfl fun gl w' hI' hb => hK.out _ _ (hI'.held (by simp)) (fun hHeld => ?_)); clear hK K; (try clear hb); replace hI := hI'; clear hI'; replace cF := hI.facts; (try simp only [mm, Act.put, Act.eval] at hI cF); (try simp only [np, Act.put]))
        refine oneG (i := 5) (by kernel_rfl) rfl (fun K hK => ?_)
        (refine stepI rfl (wpI_app (t := 29) _ _ rfl el_I hI 5 rfl rfl rfl (hI.lies1 (i := 10) (enc := encI) (size := 1) rfl mj.code.pos (fun j hj => by simp [encI, Value.cells])) rfl (by have := HXL.out; unfold maxLen; simp only [List.length_cons, List.length_nil]; omega) (by have := HXL.out; simp only [List.length_cons, List.length_nil]; omega) fun v' w' hI' => hK.out _ _ (hI'.held (by simp)) (fun hHeld => ?_)); clear hK K; (try clear hb); replace hI := hI'; clear hI'; replace cF := hI.facts; (try simp only [mm, Act.put, Act.eval] at hI cF); (try simp only [np, Act.put]))
        (refine takeGp (i := 7) rfl (by kernel_rfl) (by kernel_rfl) (by kernel_rfl) (fun _ _ _ _ h => h) (by rfl) (by assumption) ?_; refine' ⟨_, ?_, ?_⟩; rotate_left; (focus (intro w; go_simp; first | done | with_reducible rfl)); (try simp only [Act.put, List.setIfInBounds_toArray, List.set_cons_zero, List.set_cons_succ]))
        refine oneGs (i := 8) (by kernel_rfl) rfl (by kernel_rfl) (fun K hK => ?_)
        (refine stepI rfl (wpI_storeW _ _ _ rfl hI rfl 0 rfl rfl (HSZ.out.trans hsz1.symm) (info_mach h82) HO1.out fun w' hI' => hK.out _ _ ?_); clear hK K; (try clear hb); replace hI := hI'; clear hI'; replace cF := hI.facts; (try simp only [mm, Act.put, Act.eval] at hI cF); (try simp only [np, Act.put]))
        refine doneG (by kernel_rfl) ?_ _
        (try clear hHeld)
        go_wp2_with fail
        go_roundw
        case rel => exact ⟨j + 1, m2, va2, vs2, vo2, xs ++ [mj.code.pos], by go_num, by omega, HOK2.out, h82, by rw [HRU2.out]; congr 1; omega, by rw [HPL2.out, show f - (j + 1) = k by omega, List.append_assoc]; rfl, by have := HXL.out; simp [this], hI.sel [0, 1, 6, 7, 8, 5] _ (by decide) rfl⟩
        case measure => simp [intOf]; omega
      · have hrn := runN_no (f := k) he
        have HRU2 := Lib.hid (show runN m f = (mj, (oneF mj).2) by rw [HRU.out, hk]; exact hrn.1)
        have HPL2 := Lib.hid (show placesN m f = xs by rw [HPL.out, hk, hrn.2, List.append_nil])
        have hne : ((oneF mj).2 != 0) = true := by simpa using he
        have HQ := Lib.hid he
        have HO1 := Lib.hid (show zeroMC.all (·.oneCell') = true by kernel_rfl)
        clear hrn he HRU HPL
        obtain ⟨A9, c9, hv9⟩ := (InvT.own0 (enc := encI) (xs := xs) (size := 1) hI (i := 5) rfl).form
        subst hv9
        have cF := hI.facts; (try simp only [mm] at cF)
        go_wp2_with (first
          | (refine wpList_load_box rfl 31 _ rfl (hI.box (i := 0) rfl) rfl Tryz.underlying31 rfl (by first | exact info_mach (by assumption) | (simp only [hsz1]; kernel_rfl) | (simp only [hsz2]; kernel_rfl) | (simp only [hsz]; kernel_rfl) | kernel_rfl) ?_)
          | (go_at_call 31
             refine (HR.out _ (machV_own (InvT.own0 (enc := encV) (xs := mj.mem) (size := 7) hI (i := 2) rfl) (InvT.own0 (enc := encF) (xs := mj.stack) (size := 12) hI (i := 3) rfl) (InvT.own0 (enc := encI) (xs := mj.out) (size := 1) hI (i := 4) rfl) h8j) (HE.out.inv hI)).mono ?_
             rintro e w2 (⟨h, -⟩ | ⟨-, rfl, hb⟩)
             · exact absurd h HQ.out
             have hI' := hI.on hb
             (try clear hb); replace hI := hI'; clear hI'; replace cF := hI.facts; (try simp only [mm, Act.put, Act.eval] at hI cF))
          | (refine lv 31 hI Tryz.zeroValue31 fun gx w' hI' hb => ?_; (try clear hb); replace hI := hI'; clear hI'; replace cF := hI.facts; (try simp only [mm, Act.put, Act.eval] at hI cF))
          | (refine listI rfl fun K hK => wpI_storeW _ _ _ rfl hI rfl 1 rfl rfl (zeroMC_size.trans hsz.symm) (info_mach h8j) (machL_one h8j (hI.one (i := 2) rfl) (hI.one (i := 3) rfl) (hI.one (i := 4) rfl)) fun w' hI' => hK _ _ ?_; clear hK K; (try clear hb); replace hI := hI'; clear hI'; replace cF := hI.facts; (try simp only [mm, Act.put, Act.eval] at hI cF))
          | fail)
        have hbx := hI.box (i := 1) rfl
        refine bodyPost_ret (results_cttt rfl rfl hbx Tryz.underlying31 rfl (info_mach h8j)) rfl ?_
        rw [HRU2.out, HPL2.out]
        exact ⟨va, vs, vo, A9, c9, h8j, rfl, hI.sel [2, 3, 4, 5] _ (by decide) rfl⟩
    · obtain rfl : j = f := by omega
      have hkz : ¬ (j : Int) < j := by omega
      have HRU2 := Lib.hid (show runN m j = (mj, 15) by rw [HRU.out, Nat.sub_self]; rfl)
      have HPL2 := Lib.hid (show placesN m j = xs by rw [HPL.out, Nat.sub_self]; exact List.append_nil _)
      clear HRU HPL
      obtain ⟨A9, c9, hv9⟩ := (InvT.own0 (enc := encI) (xs := xs) (size := 1) hI (i := 5) rfl).form
      subst hv9
      have cF := hI.facts; (try simp only [mm] at cF)
      go_wp2_with (first | (refine wpList_load_box rfl 31 _ rfl (hI.box (i := 0) rfl) rfl Tryz.underlying31 rfl (by first | exact info_mach (by assumption) | (simp only [hsz1]; kernel_rfl) | (simp only [hsz2]; kernel_rfl) | (simp only [hsz]; kernel_rfl) | kernel_rfl) ?_) | (refine listI rfl fun K hK => wpI_storeW _ _ _ rfl hI rfl 1 rfl rfl (zeroMC_size.trans hsz.symm) (info_mach h8j) (machL_one h8j (hI.one (i := 2) rfl) (hI.one (i := 3) rfl) (hI.one (i := 4) rfl)) fun w' hI' => hK _ _ ?_; clear hK K; (try clear hb); replace hI := hI'; clear hI'; replace cF := hI.facts; (try simp only [mm, Act.put, Act.eval] at hI cF)) | fail)
      have hbx := hI.box (i := 1) rfl
      refine bodyPost_ret (results_cttt rfl rfl hbx Tryz.underlying31 rfl (info_mach h8j)) rfl ?_
      rw [HRU2.out, HPL2.out]
      exact ⟨va, vs, vo, A9, c9, h8j, rfl, hI.sel [2, 3, 4, 5] _ (by decide) rfl⟩
theorem r_RunR (mc : Array Value) (m : Mach) (hwf : m.Wf) (fuel : Int) (w : World) (hm : MachV w w.heap.size mc m) (hE : Env w) :
    Calls Tryz.prog 17 #[.agg mc, .int .i64 fuel] w (RetRR w (runF m fuel).1 (runF m fuel).2.1 (runF m fuel).2.2.1 (runF m fuel).2.2.2) := by
  unfold runF
  cases hf : inR fuel 0 5000
  · rw [if_pos rfl]; exact r_Run_arg mc fuel w hf hm.size
  · rw [if_neg (by simp)]
    cases h0 : (machE m != 0)
    · rw [if_neg (by simp)]
      obtain ⟨f, rfl⟩ : ∃ f : Nat, fuel = f := ⟨fuel.toNat, by have := inR_iff.1 hf; omega⟩
      rw [Int.toNat_natCast]
      exact r_Run_ok mc m hwf f w hm hE hf h0
    · rw [if_pos rfl]; exact r_Run_no mc m hwf fuel w hm hf h0
theorem r_Run (mc : Array Value) (m : Mach) (hwf : m.Wf) (fuel : Int) (w : World) (hm : MachV w w.heap.size mc m) (hE : Env w) :
    Calls Tryz.prog 17 #[.agg mc, .int .i64 fuel] w (RetRun w (runF m fuel).1 (runF m fuel).2.1 (runF m fuel).2.2.1 (runF m fuel).2.2.2) := (r_RunR mc m hwf fuel w hm hE).mono fun _ _ h => RetRR.run h
end Go.Proofs.YthmpnnfejghhfaaGreatDoor
namespace Go.Proofs.YthmpnnfejghhfaaGreatDoor
open Go.RowKit
set_option linter.unusedVariables false
set_option linter.unusedSimpArgs false
set_option maxRecDepth 100000
theorem Lies.grow {α : Type} {enc : α → List Value} {size : Nat} {w w' : World} {A : Option Addr} {xs : List α} (h : Lies enc size w w.heap.size A xs) (hb : Below w.heap.size w w') : Lies enc size w' w'.heap.size A xs := (h.below hb).more hb.size
theorem runF_lens (m : Mach) (n : Int) : (runF m n).1.mem.length < 9223372036854775807 ∧ (runF m n).1.stack.length < 9223372036854775807 ∧ (runF m n).1.out.length < 9223372036854775807 := by
  have lt0 : (0 : Nat) < 9223372036854775807 := by decide
  unfold runF
  split
  · exact ⟨lt0, lt0, lt0⟩
  · split
    · exact ⟨lt0, lt0, lt0⟩
    · rename_i h
      have h1 := runN_ok (machE_ok (by simpa using h)) n.toNat
      have := h1.len
      have := h1.deep
      have := h1.outs
      refine ⟨?_, ?_, ?_⟩ <;> simp <;> omega
theorem runF_places (m : Mach) (n : Int) : (runF m n).2.1.length ≤ 5000 := by
  unfold runF
  split
  · exact Nat.zero_le _
  · split
    · exact Nat.zero_le _
    · rename_i h _
      have h1 := inR_iff.1 (show inR n 0 5000 = true by simpa using h)
      have := placesN_len m n.toNat
      simp only; omega
theorem c_Run (mc : Array Value) (m : Mach) (fuel : Int) (w : World) (hm : MachV w w.heap.size mc m) (hE : Env w) :
    Calls Tryz.prog 16 #[.agg mc, .int .i64 fuel] w (RetMR w (runF m fuel).1 fun v => .tuple #[v, .int .i64 (runF m fuel).2.1.length, .int .i64 (runF m fuel).2.2.1]) := by
  unfold runF
  cases hf : inR fuel 0 5000
  · rw [if_pos rfl]; exact c_run_no mc m fuel w hm 1 (by rw [hf]; rfl) (by decide)
  · rw [if_neg (by simp)]
    cases h0 : (machE m != 0)
    · rw [if_neg (by simp)]; exact c_run_ok mc m fuel w hm hE hf h0
    · rw [if_pos rfl]; exact c_run_no mc m fuel w hm (machE m) (by rw [hf]; rfl) (by simpa using h0)
theorem c_Places (mc : Array Value) (m : Mach) (fuel : Int) (w : World) (hm : MachV w w.heap.size mc m) (hE : Env w) :
    Calls Tryz.prog 18 #[.agg mc, .int .i64 fuel] w (RetInts w (runF m fuel).2.1 (if (runF m fuel).2.2.2 = true then 0 else (runF m fuel).2.2.1)) := by
  unfold runF
  cases hf : inR fuel 0 5000
  · rw [if_pos rfl]; exact c_places_no mc m fuel w hm 1 (by rw [hf]; rfl) (by decide)
  · rw [if_neg (by simp)]
    cases h0 : (machE m != 0)
    · rw [if_neg (by simp)]; exact c_places_ok mc m fuel w hm hE hf h0
    · rw [if_pos rfl]; exact c_places_no mc m fuel w hm (machE m) (by rw [hf]; rfl) (by simpa using h0)
end Go.Proofs.YthmpnnfejghhfaaGreatDoor
