/- What the parts say: The reference's step and Step, whole. Conditions: the machine's numbers are numbers; Go's tables hold what they were laid with. -/
import Derived.Test.YthmpnnfejghhfaaGreatDoorP42
import Derived.Test.YthmpnnfejghhfaaGreatDoorP12
import Derived.Test.YthmpnnfejghhfaaGreatDoorP43
set_option linter.unusedVariables false
set_option linter.unusedSimpArgs false
namespace Go.Proofs.YthmpnnfejghhfaaGreatDoor
open Go.RowKit
set_option maxRecDepth 100000
theorem r_step (mc : Array Value) (m : Mach) (w : World) (hm : MachV w w.heap.size mc m) (hM : MachOk m) (hE : Env w) : Calls Tryz.prog 31 #[.agg mc] w (RStep w (oneF m)) := by
  have h8 := hm.regs
  cases hp : ((place m.mem.length m.code 0 4).2 != 0)
  · obtain ⟨k, hk, hkl, hk4, hpl⟩ := place_nat hp
    obtain ⟨v, hv⟩ : ∃ v, m.mem[k]? = some v := ⟨_, List.getElem?_eq_getElem hkl⟩
    have hval := hM.mem v (List.mem_of_getElem? hv); have hn : i64 v.n := (Val.wf_of hval).n
    have hf : fetchF m = if v.is = true then (instZ, 5) else readF v.n := by
      unfold fetchF
      rw [hpl]
      simp [List.getD_eq_getElem?_getD, hv]
    by_cases hbad : ¬ (readF v.n).2 = 0 ∨ v.is = true
    · have h5 : (oneF m).2 = 5 := by
        have e5 : (fetchF m).2 = 5 := by
          rw [hf]
          split
          · rfl
          · rename_i hvi
            have h1 := hbad.resolve_right hvi
            unfold readF at h1 ⊢
            split at h1
            · exact absurd rfl h1
            · rename_i h2; rw [if_neg h2]
        unfold oneF
        rw [if_neg (by rw [e5]; decide)]
        exact e5
      refine (r_step_form mc m w hm hM hE k v hpl hv hn hbad).mono ?_; rintro ed w' ⟨rfl, hb⟩
      exact RStep.err h5 (by decide) hb
    · rw [not_or, Decidable.not_not] at hbad
      obtain ⟨hr0, hvi⟩ := hbad; have hvi' : v.is = false := (by simpa using hvi); have hi := readF_ok hr0; have hin := instOk_in hi
      have hone : oneF m = doF (readF v.n).1 m := by
        unfold oneF
        rw [hf, if_neg hvi, if_pos hr0]
      obtain ⟨q, hq⟩ : ∃ q, readF v.n = q := ⟨_, rfl⟩
      rw [hq] at hr0 hi hin hone
      obtain ⟨⟨op, ia, ib, c⟩, e⟩ := q; dsimp only at hr0 hi hin hone
      subst hr0
      obtain ⟨a, rfl⟩ : ∃ a : Nat, ia = a := ⟨ia.toNat, by omega⟩
      obtain ⟨b, rfl⟩ : ∃ b : Nat, ib = b := ⟨ib.toNat, by omega⟩
      have ha8 : a < 8 := (by omega); have hb8 : b < 8 := (by omega)
      rw [hone]
      refine r_step_ok mc m w hm hM hE k v hpl hv hn op a b c hq hvi' (m.regs[a]'(by omega)) (m.regs[b]'(by omega)) ha8 hb8 (List.getElem?_eq_getElem _) (List.getElem?_eq_getElem _) hi ⟨by omega, by omega⟩ (if h : 0 ≤ c ∧ c ≤ 7 then m.regs[c.toNat]'(by omega) else Val.zero) ?_
      by_cases h : 0 ≤ c ∧ c ≤ 7
      · left
        refine ⟨c.toNat, by omega, by omega, ?_⟩
        rw [dif_pos h]
        exact List.getElem?_eq_getElem _
      · right
        rw [dif_neg h]
        exact ⟨by omega, rfl⟩
  · have h0 : ¬ (place m.mem.length m.code 0 4).2 = 0 := (by simpa using hp)
    have h5 : (oneF m).2 = (place m.mem.length m.code 0 4).2 := by
      have e5 : (fetchF m).2 = (place m.mem.length m.code 0 4).2 := by
        unfold fetchF
        simp [h0]
      unfold oneF
      rw [if_neg (by rw [e5]; exact h0)]
      exact e5
    refine (r_step_at mc m w hm hM h0).mono ?_; rintro ed w' ⟨rfl, hb⟩
    exact RStep.err h5 h0 hb
theorem r_Step_no (mc : Array Value) (m : Mach) (hwf : m.Wf) (w : World) (hm : MachV w w.heap.size mc m) (h0 : (machE m != 0) = true) :
    Calls Tryz.prog 13 #[.agg mc] w (RetMach w Mach.zero fun v => .tuple #[v, .int .i64 (machE m)]) := by
  have HM := Lib.hid hm; have hsz := hm.size; clear hm
  go_enter Tryz.func13, Tryz.ntmps13
  have hI := Inv.start w; have cF := hI.facts
  go_wp2_with (first
    | ((with_reducible refine at_box ?_); first | (refine listI rfl fun K hK => wpI_box _ _ rfl hI rfl fun gx w' hI' hb => hK _ _ ?_; clear hK K; (try clear hb); refine am92 ?_; clear hI hI'; (try clear cF); intro hI cF) | (refine listI rfl fun K hK => wpI_box1 _ _ rfl hI rfl rfl fun gx w' hI' hb => hK _ _ ?_; clear hK K; (try clear hb); refine am92 ?_; clear hI hI'; (try clear cF); intro hI cF)) | ((with_reducible refine at_alloc ?_); first | (refine listI rfl fun K hK => wpI_alloc 31 rfl hI Tryz.zeroValue31 (cs := zeroMC) (by first | rfl | kernel_rfl) fun gx w' hI' hb => hK _ _ ?_; clear hK K; (try clear hb); refine am92 ?_; clear hI hI'; (try clear cF); intro hI cF)) | ((with_reducible refine at_load ?_); first | (refine wpList_load_box rfl 31 _ rfl (hI.box (i := 0) rfl) rfl Tryz.underlying31 rfl (by first | exact info_mach (by assumption) | (simp only [hsz1]; kernel_rfl) | (simp only [hsz2]; kernel_rfl) | (simp only [hsz]; kernel_rfl) | kernel_rfl) ?_))
    | (go_at_call 30; (with_reducible refine (r_StepCheck mc m hwf _ (hI.mach HM.out)).mono ?_); refine am101 ?_; clear hI; (try clear cF); intro w' hI cF)
    | ((with_reducible refine at_store ?_); first | (refine listI rfl fun K hK => wpI_storeW _ _ _ rfl hI rfl 1 rfl rfl rfl (by kernel_rfl) (by simp [Value.oneCell']) fun w' hI' => hK _ _ ?_; clear hK K; (try clear hb); refine am92 ?_; clear hI hI'; (try clear cF); intro hI cF))
    | fail)
  exact az54
theorem r_Step_err (mc : Array Value) (m : Mach) (hwf : m.Wf) (w : World) (hm : MachV w w.heap.size mc m) (hE : Env w) (h0 : (machE m != 0) = false) (he : ¬ (oneF m).2 = 0) :
    Calls Tryz.prog 13 #[.agg mc] w (RetMach w Mach.zero fun v => .tuple #[v, .int .i64 (oneF m).2]) := by
  refine am189 ?_; intro HM hsz HE; have HOK := Lib.hid (machE_ok h0); have HQ := Lib.hid he; clear hm hE he
  go_enter Tryz.func13, Tryz.ntmps13
  have hI := Inv.start w; have cF := hI.facts
  go_wp2_with (first
    | ((with_reducible refine at_box ?_); first | (refine listI rfl fun K hK => wpI_box _ _ rfl hI rfl fun gx w' hI' hb => hK _ _ ?_; clear hK K; (try clear hb); refine am92 ?_; clear hI hI'; (try clear cF); intro hI cF) | (refine listI rfl fun K hK => wpI_box1 _ _ rfl hI rfl rfl fun gx w' hI' hb => hK _ _ ?_; clear hK K; (try clear hb); refine am92 ?_; clear hI hI'; (try clear cF); intro hI cF)) | ((with_reducible refine at_alloc ?_); first | (refine listI rfl fun K hK => wpI_alloc 31 rfl hI Tryz.zeroValue31 (cs := zeroMC) (by first | rfl | kernel_rfl) fun gx w' hI' hb => hK _ _ ?_; clear hK K; (try clear hb); refine am92 ?_; clear hI hI'; (try clear cF); intro hI cF)) | ((with_reducible refine at_load ?_); first | (refine wpList_load_box rfl 31 _ rfl (hI.box (i := 0) rfl) rfl Tryz.underlying31 rfl (by first | exact info_mach (by assumption) | (simp only [hsz1]; kernel_rfl) | (simp only [hsz2]; kernel_rfl) | (simp only [hsz]; kernel_rfl) | kernel_rfl) ?_))
    | (go_at_call 30; (with_reducible refine (r_StepCheck mc m hwf _ (hI.mach HM.out)).mono ?_); refine am101 ?_; clear hI; (try clear cF); intro w' hI cF)
    | (go_at_call 31
       refine (r_step mc m _ (hI.mach HM.out) HOK.out (HE.out.inv hI)).mono ?_
       rintro e w' (⟨h, -⟩ | ⟨-, rfl, hb⟩)
       · exact absurd h HQ.out
       have hI' := hI.on hb
       (try clear hb); replace hI := hI'; clear hI'; replace cF := hI.facts; (try simp only [mm, Act.put, Act.eval] at hI cF))
    | ((with_reducible refine at_store ?_); first | (refine listI rfl fun K hK => wpI_storeW _ _ _ rfl hI rfl 1 rfl rfl rfl (by kernel_rfl) (by kernel_rfl) fun w' hI' => hK _ _ ?_; clear hK K; (try clear hb); refine am92 ?_; clear hI hI'; (try clear cF); intro hI cF))
    | fail)
  exact az54
theorem r_Step_ok (mc : Array Value) (m : Mach) (hwf : m.Wf) (w : World) (hm : MachV w w.heap.size mc m) (hE : Env w) (h0 : (machE m != 0) = false) (he : (oneF m).2 = 0) :
    Calls Tryz.prog 13 #[.agg mc] w (RetMach w (oneF m).1 fun v => .tuple #[v, .int .i64 0]) := by
  refine am189 ?_; intro HM hsz HE; have HOK := Lib.hid (machE_ok h0); have HQ := Lib.hid he; have HR := Lib.hid (fun w h1 h2 => r_step mc m w h1 HOK.out h2); clear hm hE he
  generalize oneF m = q at *
  obtain ⟨m2, qe⟩ := q
  dsimp only at HQ ⊢
  go_enter Tryz.func13, Tryz.ntmps13
  have hI := Inv.start w; have cF := hI.facts
  go_wp2_with (first
    | ((with_reducible refine at_box ?_); first | (refine listI rfl fun K hK => wpI_box _ _ rfl hI rfl fun gx w' hI' hb => hK _ _ ?_; clear hK K; (try clear hb); refine am92 ?_; clear hI hI'; (try clear cF); intro hI cF) | (refine listI rfl fun K hK => wpI_box1 _ _ rfl hI rfl rfl fun gx w' hI' hb => hK _ _ ?_; clear hK K; (try clear hb); refine am92 ?_; clear hI hI'; (try clear cF); intro hI cF)) | ((with_reducible refine at_alloc ?_); first | (refine listI rfl fun K hK => wpI_alloc 31 rfl hI Tryz.zeroValue31 (cs := zeroMC) (by first | rfl | kernel_rfl) fun gx w' hI' hb => hK _ _ ?_; clear hK K; (try clear hb); refine am92 ?_; clear hI hI'; (try clear cF); intro hI cF)) | ((with_reducible refine at_load ?_); first | (refine wpList_load_box rfl 31 _ rfl (hI.box (i := 0) rfl) rfl Tryz.underlying31 rfl (by first | exact info_mach (by assumption) | (simp only [hsz1]; kernel_rfl) | (simp only [hsz2]; kernel_rfl) | (simp only [hsz]; kernel_rfl) | kernel_rfl) ?_))
    | (go_at_call 30; (with_reducible refine (r_StepCheck mc m hwf _ (hI.mach HM.out)).mono ?_); refine am101 ?_; clear hI; (try clear cF); intro w' hI cF)
    | (go_at_call 31
       refine (HR.out _ (hI.mach HM.out) (HE.out.inv hI)).mono ?_
       rintro e w2 (⟨-, h82, va, vs, vo, rfl, hI2⟩ | ⟨h, -⟩)
       rotate_left
       · exact absurd HQ.out h
       dsimp only at h82 hI2; have hb := hI2.below; have hI' := hI.join hI2; clear hI2
       (try clear hb); replace hI := hI'; clear hI'; replace cF := hI.facts; (try simp only [mm, Act.put, Act.eval] at hI cF))
    | ((with_reducible refine at_store ?_); first | (refine listI rfl fun K hK => wpI_storeW _ _ _ rfl hI rfl 1 rfl rfl (by rw [zeroMC_size, List.size_toArray, machL_length h82]) (info_mach h82) (machL_one h82 (hI.one (i := 2) rfl) (hI.one (i := 3) rfl) (hI.one (i := 4) rfl)) fun w' hI' => hK _ _ ?_; clear hK K; (try clear hb); refine am92 ?_; clear hI hI'; (try clear cF); intro hI cF))
    | fail)
  have hbx := hI.box (i := 1) rfl; refine am172 ?_
  exact ⟨_, rfl, machV_own (InvT.own0 (enc := encV) (xs := m2.mem) (size := 7) hI (i := 2) rfl) (InvT.own0 (enc := encF) (xs := m2.stack) (size := 12) hI (i := 3) rfl) (InvT.own0 (enc := encI) (xs := m2.out) (size := 1) hI (i := 4) rfl) h82, hI.below⟩
theorem r_Step (mc : Array Value) (m : Mach) (hwf : m.Wf) (w : World) (hm : MachV w w.heap.size mc m) (hE : Env w) :
    Calls Tryz.prog 13 #[.agg mc] w (RetMach w (stepF m).1 fun v => .tuple #[v, .int .i64 (stepF m).2]) := by
  unfold stepF
  cases h0 : (machE m != 0)
  · rw [if_neg (by simp)]
    by_cases he : (oneF m).2 = 0
    · rw [if_pos he]; exact r_Step_ok mc m hwf w hm hE h0 he
    · rw [if_neg he]; exact r_Step_err mc m hwf w hm hE h0 he
  · rw [if_pos rfl]; exact r_Step_no mc m hwf w hm h0
end Go.Proofs.YthmpnnfejghhfaaGreatDoor
