/- What the parts say: The contract of module.Check. Conditions: the numbers are numbers of 64 bits. -/
import Derived.Test.YtbkjhdohkdeniaaGreatDoorP39
import Derived.Test.YtbkjhdohkdeniaaGreatDoorP20
import Derived.Test.YtbkjhdohkdeniaaGreatDoorP11
import Derived.Test.YtbkjhdohkdeniaaGreatDoorP10
set_option linter.unusedVariables false
set_option linter.unusedSimpArgs false
namespace Go.Proofs.YtbkjhdohkdeniaaGreatDoor
open Go.RowKit
set_option maxRecDepth 100000
theorem expE_name {m : Mod} {k : Nat} {x : Label} (h : nameB x.name.data.toList = false) : expE m k x = 3 := by unfold expE; rw [if_neg (by simp [h])]
theorem expE_twice {m : Mod} {k : Nat} {x : Label} (h : nameB x.name.data.toList = true) (h2 : ((m.exports.take k).any fun y => decide (y.name = x.name)) = true) : expE m k x = 8 := by unfold expE; rw [if_pos h, if_pos h2]
theorem expE_in {m : Mod} {k : Nat} {x : Label} (h : nameB x.name.data.toList = true) (h2 : ((m.exports.take k).any fun y => decide (y.name = x.name)) = false) (h3 : inR x.pos 0 (m.code.length - 1) = true) : expE m k x = 0 := by unfold expE; rw [if_pos h, if_neg (by simp [h2]), if_pos h3]
theorem expE_out {m : Mod} {k : Nat} {x : Label} (h : nameB x.name.data.toList = true) (h2 : ((m.exports.take k).any fun y => decide (y.name = x.name)) = false) (h3 : inR x.pos 0 (m.code.length - 1) = false) : expE m k x = 13 := by unfold expE; rw [if_pos h, if_neg (by simp [h2]), if_neg (by simp [h3])]
theorem impE_name {m : Mod} {k : Nat} {x : Import} (h : nameB x.name.data.toList = false) : impE m k x = 3 := by unfold impE; rw [if_neg (by simp [h])]
theorem impE_out {m : Mod} {k : Nat} {x : Import} (h : nameB x.name.data.toList = true) (h3 : inR x.slot 0 (m.data.length - 2) = false) : impE m k x = 13 := by unfold impE; rw [if_pos h, if_neg (by simp [h3])]
theorem impE_twice {m : Mod} {k : Nat} {x : Import} (h : nameB x.name.data.toList = true) (h3 : inR x.slot 0 (m.data.length - 2) = true) (h2 : ((m.imports.take k).any fun y => nearB x.slot y.slot) = true) : impE m k x = 8 := by unfold impE; rw [if_pos h, if_pos h3, if_pos h2]
theorem impE_in {m : Mod} {k : Nat} {x : Import} (h : nameB x.name.data.toList = true) (h3 : inR x.slot 0 (m.data.length - 2) = true) (h2 : ((m.imports.take k).any fun y => nearB x.slot y.slot) = false) : impE m k x = 0 := by unfold impE; rw [if_pos h, if_pos h3, if_neg (by simp [h2])]
theorem largeB_no {m : Mod} (h : largeB m = false) : m.code.length ≤ 120 ∧ m.data.length ≤ 60 ∧ m.exports.length ≤ 20 ∧ m.imports.length ≤ 20 := by
  simp only [largeB, Bool.or_eq_false_iff, decide_eq_false_iff_not] at h; omega
theorem modE_large {m : Mod} (h : largeB m = true) : modE m = 2 := by unfold modE; rw [if_pos h]
theorem modE_num {m : Mod} (h : largeB m = false) (h2 : (numsB m.code && numsB m.data) = false) : modE m = 1 := by unfold modE; rw [if_neg (by simp [h]), if_neg (by simp [h2])]
theorem modE_rest {m : Mod} (h : largeB m = false) (h2 : (numsB m.code && numsB m.data) = true) : modE m = seqE (fromI (expE m) m.exports 0) (fromI (impE m) m.imports 0) := by unfold modE; rw [if_neg (by simp [h]), if_pos h2]
set_option maxHeartbeats 40000000 in
theorem c_module_Check (mv : Value) (m : Mod) (w : World) (hwf : m.Wf) (hm : ModV w w.heap.size mv m) :
    Calls Tryz.prog 17 #[mv] w (Ret (.int .i64 (modE m)) w) := by
  obtain ⟨A, D, E, I, a, d, e, i, rfl, -, -, -, -, he1, he2, hi1, hi2, hA, hD, hE, hM⟩ := hm.ex
  have HA := Lib.hid hA
  have HD := Lib.hid hD
  have HE := Lib.hid hE
  have HM := Lib.hid hM
  have HW := Lib.hid hwf
  clear hwf hm hA hD hE hM
  have hI := Inv.start w
  cases hl : largeB m
  · obtain ⟨g1, g2, g3, g4⟩ := largeB_no hl
    have hmx1 : m.code.length ≤ maxLen := by unfold maxLen; omega
    have hmx2 : m.data.length ≤ maxLen := by unfold maxLen; omega
    have HC := Lib.hid (fun W hL => c_numbers A a m.code W hmx1 hL)
    have HDD := Lib.hid (fun W hL => c_numbers D d m.data W hmx2 hL)
    have ex1 : m.exports.length ≤ 9223372036854775807 := by omega
    cases h1 : numsB m.code
    · have H := Lib.hid (modE_num hl (show (numsB m.code && numsB m.data) = false by rw [h1]; rfl))
      rw [h1] at HC
      go_enter Tryz.func17, Tryz.ntmps17
      go_wp2_with (first | (refine listI rfl fun K hK => wpI_box _ _ rfl hI rfl fun gx w' hI' hb => hK _ _ ?_; clear hK K; (try clear hb); clear hI; have hI := hI'; clear hI'; (try simp only [mm, Act.put, Act.eval] at hI); (try clear c0); (try clear c1); (try clear c2); (try clear c3); (try clear c4); (try clear c5); (try have c0 := hI.cell (i := 0) rfl); (try have c1 := hI.cell (i := 1) rfl); (try have c2 := hI.cell (i := 2) rfl); (try have c3 := hI.cell (i := 3) rfl); (try have c4 := hI.cell (i := 4) rfl); (try have c5 := hI.cell (i := 5) rfl); skip) | (refine listI rfl fun K hK => wpI_box1 _ _ rfl hI rfl rfl fun gx w' hI' hb => hK _ _ ?_; clear hK K; (try clear hb); clear hI; have hI := hI'; clear hI'; (try simp only [mm, Act.put, Act.eval] at hI); (try clear c0); (try clear c1); (try clear c2); (try clear c3); (try clear c4); (try clear c5); (try have c0 := hI.cell (i := 0) rfl); (try have c1 := hI.cell (i := 1) rfl); (try have c2 := hI.cell (i := 2) rfl); (try have c3 := hI.cell (i := 3) rfl); (try have c4 := hI.cell (i := 4) rfl); (try have c5 := hI.cell (i := 5) rfl); skip) | (go_at_call_of 47 (Value.slice A m.code.length a); (with_reducible refine (HC.out _ (hI.lies HA.out)).mono ?_); intro e w' hr; obtain ⟨rfl, hb⟩ := hr; have hI' := hI.on hb; (try clear hb); clear hI; have hI := hI'; clear hI'; (try simp only [mm, Act.put, Act.eval] at hI); (try clear c0); (try clear c1); (try clear c2); (try clear c3); (try clear c4); (try clear c5); (try have c0 := hI.cell (i := 0) rfl); (try have c1 := hI.cell (i := 1) rfl); (try have c2 := hI.cell (i := 2) rfl); (try have c3 := hI.cell (i := 3) rfl); (try have c4 := hI.cell (i := 4) rfl); (try have c5 := hI.cell (i := 5) rfl); skip) | fail)
      go_returns
      exact Ret.int H.out.symm hI.below
    · cases h2 : numsB m.data
      · have H := Lib.hid (modE_num hl (show (numsB m.code && numsB m.data) = false by rw [h1, h2]; rfl))
        rw [h1] at HC
        rw [h2] at HDD
        go_enter Tryz.func17, Tryz.ntmps17
        go_wp2_with (first | (refine listI rfl fun K hK => wpI_box _ _ rfl hI rfl fun gx w' hI' hb => hK _ _ ?_; clear hK K; (try clear hb); clear hI; have hI := hI'; clear hI'; (try simp only [mm, Act.put, Act.eval] at hI); (try clear c0); (try clear c1); (try clear c2); (try clear c3); (try clear c4); (try clear c5); (try have c0 := hI.cell (i := 0) rfl); (try have c1 := hI.cell (i := 1) rfl); (try have c2 := hI.cell (i := 2) rfl); (try have c3 := hI.cell (i := 3) rfl); (try have c4 := hI.cell (i := 4) rfl); (try have c5 := hI.cell (i := 5) rfl); skip) | (refine listI rfl fun K hK => wpI_box1 _ _ rfl hI rfl rfl fun gx w' hI' hb => hK _ _ ?_; clear hK K; (try clear hb); clear hI; have hI := hI'; clear hI'; (try simp only [mm, Act.put, Act.eval] at hI); (try clear c0); (try clear c1); (try clear c2); (try clear c3); (try clear c4); (try clear c5); (try have c0 := hI.cell (i := 0) rfl); (try have c1 := hI.cell (i := 1) rfl); (try have c2 := hI.cell (i := 2) rfl); (try have c3 := hI.cell (i := 3) rfl); (try have c4 := hI.cell (i := 4) rfl); (try have c5 := hI.cell (i := 5) rfl); skip) | (go_at_call_of 47 (Value.slice A m.code.length a); (with_reducible refine (HC.out _ (hI.lies HA.out)).mono ?_); intro e w' hr; obtain ⟨rfl, hb⟩ := hr; have hI' := hI.on hb; (try clear hb); clear hI; have hI := hI'; clear hI'; (try simp only [mm, Act.put, Act.eval] at hI); (try clear c0); (try clear c1); (try clear c2); (try clear c3); (try clear c4); (try clear c5); (try have c0 := hI.cell (i := 0) rfl); (try have c1 := hI.cell (i := 1) rfl); (try have c2 := hI.cell (i := 2) rfl); (try have c3 := hI.cell (i := 3) rfl); (try have c4 := hI.cell (i := 4) rfl); (try have c5 := hI.cell (i := 5) rfl); skip) | (go_at_call 47; (with_reducible refine (HDD.out _ (hI.lies HD.out)).mono ?_); intro e w' hr; obtain ⟨rfl, hb⟩ := hr; have hI' := hI.on hb; (try clear hb); clear hI; have hI := hI'; clear hI'; (try simp only [mm, Act.put, Act.eval] at hI); (try clear c0); (try clear c1); (try clear c2); (try clear c3); (try clear c4); (try clear c5); (try have c0 := hI.cell (i := 0) rfl); (try have c1 := hI.cell (i := 1) rfl); (try have c2 := hI.cell (i := 2) rfl); (try have c3 := hI.cell (i := 3) rfl); (try have c4 := hI.cell (i := 4) rfl); (try have c5 := hI.cell (i := 5) rfl); skip) | fail)
        go_returns
        exact Ret.int H.out.symm hI.below
      · have H := Lib.hid (modE_rest hl (show (numsB m.code && numsB m.data) = true by rw [h1, h2]; rfl))
        rw [h1] at HC
        rw [h2] at HDD
        clear h1 h2 hl
        go_enter Tryz.func17, Tryz.ntmps17
        go_wp2_with (first | (refine listI rfl fun K hK => wpI_box _ _ rfl hI rfl fun gx w' hI' hb => hK _ _ ?_; clear hK K; (try clear hb); clear hI; have hI := hI'; clear hI'; (try simp only [mm, Act.put, Act.eval] at hI); (try clear c0); (try clear c1); (try clear c2); (try clear c3); (try clear c4); (try clear c5); (try have c0 := hI.cell (i := 0) rfl); (try have c1 := hI.cell (i := 1) rfl); (try have c2 := hI.cell (i := 2) rfl); (try have c3 := hI.cell (i := 3) rfl); (try have c4 := hI.cell (i := 4) rfl); (try have c5 := hI.cell (i := 5) rfl); skip) | (refine listI rfl fun K hK => wpI_box1 _ _ rfl hI rfl rfl fun gx w' hI' hb => hK _ _ ?_; clear hK K; (try clear hb); clear hI; have hI := hI'; clear hI'; (try simp only [mm, Act.put, Act.eval] at hI); (try clear c0); (try clear c1); (try clear c2); (try clear c3); (try clear c4); (try clear c5); (try have c0 := hI.cell (i := 0) rfl); (try have c1 := hI.cell (i := 1) rfl); (try have c2 := hI.cell (i := 2) rfl); (try have c3 := hI.cell (i := 3) rfl); (try have c4 := hI.cell (i := 4) rfl); (try have c5 := hI.cell (i := 5) rfl); skip) | (go_at_call_of 47 (Value.slice A m.code.length a); (with_reducible refine (HC.out _ (hI.lies HA.out)).mono ?_); intro e w' hr; obtain ⟨rfl, hb⟩ := hr; have hI' := hI.on hb; (try clear hb); clear hI; have hI := hI'; clear hI'; (try simp only [mm, Act.put, Act.eval] at hI); (try clear c0); (try clear c1); (try clear c2); (try clear c3); (try clear c4); (try clear c5); (try have c0 := hI.cell (i := 0) rfl); (try have c1 := hI.cell (i := 1) rfl); (try have c2 := hI.cell (i := 2) rfl); (try have c3 := hI.cell (i := 3) rfl); (try have c4 := hI.cell (i := 4) rfl); (try have c5 := hI.cell (i := 5) rfl); skip) | (go_at_call 47; (with_reducible refine (HDD.out _ (hI.lies HD.out)).mono ?_); intro e w' hr; obtain ⟨rfl, hb⟩ := hr; have hI' := hI.on hb; (try clear hb); clear hI; have hI := hI'; clear hI'; (try simp only [mm, Act.put, Act.eval] at hI); (try clear c0); (try clear c1); (try clear c2); (try clear c3); (try clear c4); (try clear c5); (try have c0 := hI.cell (i := 0) rfl); (try have c1 := hI.cell (i := 1) rfl); (try have c2 := hI.cell (i := 2) rfl); (try have c3 := hI.cell (i := 3) rfl); (try have c4 := hI.cell (i := 4) rfl); (try have c5 := hI.cell (i := 5) rfl); skip) | fail)
        have gx := 0
        rename_i gm _ _ _ _ _ _ _ _
        clear HC HDD
        go_loopw [44] (fun v wr => ∃ k : Nat, v = .int .i64 k ∧ k ≤ m.exports.length ∧ fromI (expE m) m.exports 0 = fromI (expE m) m.exports k ∧ Inv w [.box gm 51 #[.slice A m.code.length a, .slice D m.data.length d, .slice E m.exports.length e, .slice I m.imports.length i]] wr) (fun v _ => (m.exports.length - intOf v).toNat)
        case atStart => exact ⟨0, rfl, by omega, rfl, hI⟩
        case round =>
          clear hI
          obtain ⟨k, rfl, hk, hf, hI⟩ := hrel
          have HF := Lib.hid hf
          clear hf
          rcases Nat.lt_or_ge k m.exports.length with hlt | hge
          · obtain ⟨be, oe, x, hEE, hbe, hx, q0, q1⟩ := (hI.lies HE.out).cellsL hlt
            subst hEE
            have HX := Lib.hid hx
            clear hx
            (try clear c0); (try clear c1); (try clear c2); (try clear c3); (try clear c4); (try clear c5); (try have c0 := hI.cell (i := 0) rfl); (try have c1 := hI.cell (i := 1) rfl); (try have c2 := hI.cell (i := 2) rfl); (try have c3 := hI.cell (i := 3) rfl); (try have c4 := hI.cell (i := 4) rfl); (try have c5 := hI.cell (i := 5) rfl); skip
            have HT := Lib.hid (show (m.exports.take k).length = k by rw [List.length_take]; omega)
            have hT1 := Lib.hid (show (m.exports.take k).length ≤ maxLen by rw [HT.out]; unfold maxLen; omega)
            have bnd : (0 : Int) ≤ (k : Int) ∧ (k : Int) ≤ m.exports.length ∧ (k : Int) ≤ e := by omega
            obtain ⟨bd1, bd2, bd3⟩ := bnd
            cases h3 : nameB x.name.data.toList
            · have H2 := Lib.hid (show modE m = 3 by rw [H.out, HF.out, fromI_no HX.out (by rw [expE_name h3]; rfl), expE_name h3]; rfl)
              go_wp2_with (first | (refine listI rfl fun K hK => wpI_alloc 47 rfl hI Tryz.zeroValue47 (cs := #[.string ⟨#[]⟩, .int .i64 0]) (by first | rfl | kernel_rfl) fun gx w' hI' hb => hK _ _ ?_; clear hK K; (try clear hb); clear hI; have hI := hI'; clear hI'; (try simp only [mm, Act.put, Act.eval] at hI); (try clear c0); (try clear c1); (try clear c2); (try clear c3); (try clear c4); (try clear c5); (try have c0 := hI.cell (i := 0) rfl); (try have c1 := hI.cell (i := 1) rfl); (try have c2 := hI.cell (i := 2) rfl); (try have c3 := hI.cell (i := 3) rfl); (try have c4 := hI.cell (i := 4) rfl); (try have c5 := hI.cell (i := 5) rfl); skip) | (refine listI rfl fun K hK => wpI_storeW _ _ _ rfl hI rfl 1 rfl rfl rfl (by kernel_rfl) (by simp [Value.oneCell']) fun w' hI' => hK _ _ ?_; clear hK K; (try clear hb); clear hI; have hI := hI'; clear hI'; (try simp only [mm, Act.put, Act.eval] at hI); (try clear c0); (try clear c1); (try clear c2); (try clear c3); (try clear c4); (try clear c5); (try have c0 := hI.cell (i := 0) rfl); (try have c1 := hI.cell (i := 1) rfl); (try have c2 := hI.cell (i := 2) rfl); (try have c3 := hI.cell (i := 3) rfl); (try have c4 := hI.cell (i := 4) rfl); (try have c5 := hI.cell (i := 5) rfl); skip) | (go_at_call 48; (with_reducible refine (h3 ▸ c_prog_IsName x.name _).mono ?_); intro e w' hr; obtain ⟨rfl, hb⟩ := hr; have hI' := hI.on hb; (try clear hb); clear hI; have hI := hI'; clear hI'; (try simp only [mm, Act.put, Act.eval] at hI); (try clear c0); (try clear c1); (try clear c2); (try clear c3); (try clear c4); (try clear c5); (try have c0 := hI.cell (i := 0) rfl); (try have c1 := hI.cell (i := 1) rfl); (try have c2 := hI.cell (i := 2) rfl); (try have c3 := hI.cell (i := 3) rfl); (try have c4 := hI.cell (i := 4) rfl); (try have c5 := hI.cell (i := 5) rfl); skip) | fail)
              go_returns
              exact Ret.int H2.out.symm hI.below
            · cases h4 : (m.exports.take k).any fun y => decide (y.name = x.name)
              · cases h5 : inR x.pos 0 (m.code.length - 1)
                · have H2 := Lib.hid (show modE m = 13 by rw [H.out, HF.out, fromI_no HX.out (by rw [expE_out h3 h4 h5]; rfl), expE_out h3 h4 h5]; rfl)
                  have h6 : x.pos < 0 ∨ (0 ≤ x.pos ∧ (m.code.length : Int) ≤ x.pos) := by rw [inR_not] at h5; omega
                  clear h5
                  rcases h6 with h6 | ⟨h6, h7⟩
                  all_goals
                    go_wp2_with (first | (refine listI rfl fun K hK => wpI_alloc 47 rfl hI Tryz.zeroValue47 (cs := #[.string ⟨#[]⟩, .int .i64 0]) (by first | rfl | kernel_rfl) fun gx w' hI' hb => hK _ _ ?_; clear hK K; (try clear hb); clear hI; have hI := hI'; clear hI'; (try simp only [mm, Act.put, Act.eval] at hI); (try clear c0); (try clear c1); (try clear c2); (try clear c3); (try clear c4); (try clear c5); (try have c0 := hI.cell (i := 0) rfl); (try have c1 := hI.cell (i := 1) rfl); (try have c2 := hI.cell (i := 2) rfl); (try have c3 := hI.cell (i := 3) rfl); (try have c4 := hI.cell (i := 4) rfl); (try have c5 := hI.cell (i := 5) rfl); skip) | (refine listI rfl fun K hK => wpI_storeW _ _ _ rfl hI rfl 1 rfl rfl rfl (by kernel_rfl) (by simp [Value.oneCell']) fun w' hI' => hK _ _ ?_; clear hK K; (try clear hb); clear hI; have hI := hI'; clear hI'; (try simp only [mm, Act.put, Act.eval] at hI); (try clear c0); (try clear c1); (try clear c2); (try clear c3); (try clear c4); (try clear c5); (try have c0 := hI.cell (i := 0) rfl); (try have c1 := hI.cell (i := 1) rfl); (try have c2 := hI.cell (i := 2) rfl); (try have c3 := hI.cell (i := 3) rfl); (try have c4 := hI.cell (i := 4) rfl); (try have c5 := hI.cell (i := 5) rfl); skip) | (go_at_call 48; (with_reducible refine (h3 ▸ c_prog_IsName x.name _).mono ?_); intro e w' hr; obtain ⟨rfl, hb⟩ := hr; have hI' := hI.on hb; (try clear hb); clear hI; have hI := hI'; clear hI'; (try simp only [mm, Act.put, Act.eval] at hI); (try clear c0); (try clear c1); (try clear c2); (try clear c3); (try clear c4); (try clear c5); (try have c0 := hI.cell (i := 0) rfl); (try have c1 := hI.cell (i := 1) rfl); (try have c2 := hI.cell (i := 2) rfl); (try have c3 := hI.cell (i := 3) rfl); (try have c4 := hI.cell (i := 4) rfl); (try have c5 := hI.cell (i := 5) rfl); skip) | (go_at_call 49; (with_reducible refine (h4 ▸ c_ContainsL (some ⟨be, oe, none⟩) e k (m.exports.take k) gx x.name w' HT.out hT1.out ((hI.box (i := 1) rfl).lt) (hI.cell (i := 1) rfl 0) (hI.lies HE.out).front).mono ?_); intro e w' hr; obtain ⟨rfl, hb⟩ := hr; have hI' := hI.on hb; (try clear hb); clear hI; have hI := hI'; clear hI'; (try simp only [mm, Act.put, Act.eval] at hI); (try clear c0); (try clear c1); (try clear c2); (try clear c3); (try clear c4); (try clear c5); (try have c0 := hI.cell (i := 0) rfl); (try have c1 := hI.cell (i := 1) rfl); (try have c2 := hI.cell (i := 2) rfl); (try have c3 := hI.cell (i := 3) rfl); (try have c4 := hI.cell (i := 4) rfl); (try have c5 := hI.cell (i := 5) rfl); skip) | fail)
                    go_returns
                    exact Ret.int H2.out.symm hI.below
                · have H2 := Lib.hid (show fromI (expE m) m.exports 0 = fromI (expE m) m.exports (k + 1) by rw [HF.out, fromI_ok HX.out (by rw [expE_in h3 h4 h5]; rfl)])
                  have h6 : 0 ≤ x.pos ∧ x.pos < (m.code.length : Int) := by rw [inR_iff] at h5; omega
                  obtain ⟨h6, h7⟩ := h6
                  clear h5
                  go_wp2_with (first | (refine listI rfl fun K hK => wpI_alloc 47 rfl hI Tryz.zeroValue47 (cs := #[.string ⟨#[]⟩, .int .i64 0]) (by first | rfl | kernel_rfl) fun gx w' hI' hb => hK _ _ ?_; clear hK K; (try clear hb); clear hI; have hI := hI'; clear hI'; (try simp only [mm, Act.put, Act.eval] at hI); (try clear c0); (try clear c1); (try clear c2); (try clear c3); (try clear c4); (try clear c5); (try have c0 := hI.cell (i := 0) rfl); (try have c1 := hI.cell (i := 1) rfl); (try have c2 := hI.cell (i := 2) rfl); (try have c3 := hI.cell (i := 3) rfl); (try have c4 := hI.cell (i := 4) rfl); (try have c5 := hI.cell (i := 5) rfl); skip) | (refine listI rfl fun K hK => wpI_storeW _ _ _ rfl hI rfl 1 rfl rfl rfl (by kernel_rfl) (by simp [Value.oneCell']) fun w' hI' => hK _ _ ?_; clear hK K; (try clear hb); clear hI; have hI := hI'; clear hI'; (try simp only [mm, Act.put, Act.eval] at hI); (try clear c0); (try clear c1); (try clear c2); (try clear c3); (try clear c4); (try clear c5); (try have c0 := hI.cell (i := 0) rfl); (try have c1 := hI.cell (i := 1) rfl); (try have c2 := hI.cell (i := 2) rfl); (try have c3 := hI.cell (i := 3) rfl); (try have c4 := hI.cell (i := 4) rfl); (try have c5 := hI.cell (i := 5) rfl); skip) | (go_at_call 48; (with_reducible refine (h3 ▸ c_prog_IsName x.name _).mono ?_); intro e w' hr; obtain ⟨rfl, hb⟩ := hr; have hI' := hI.on hb; (try clear hb); clear hI; have hI := hI'; clear hI'; (try simp only [mm, Act.put, Act.eval] at hI); (try clear c0); (try clear c1); (try clear c2); (try clear c3); (try clear c4); (try clear c5); (try have c0 := hI.cell (i := 0) rfl); (try have c1 := hI.cell (i := 1) rfl); (try have c2 := hI.cell (i := 2) rfl); (try have c3 := hI.cell (i := 3) rfl); (try have c4 := hI.cell (i := 4) rfl); (try have c5 := hI.cell (i := 5) rfl); skip) | (go_at_call 49; (with_reducible refine (h4 ▸ c_ContainsL (some ⟨be, oe, none⟩) e k (m.exports.take k) gx x.name w' HT.out hT1.out ((hI.box (i := 1) rfl).lt) (hI.cell (i := 1) rfl 0) (hI.lies HE.out).front).mono ?_); intro e w' hr; obtain ⟨rfl, hb⟩ := hr; have hI' := hI.on hb; (try clear hb); clear hI; have hI := hI'; clear hI'; (try simp only [mm, Act.put, Act.eval] at hI); (try clear c0); (try clear c1); (try clear c2); (try clear c3); (try clear c4); (try clear c5); (try have c0 := hI.cell (i := 0) rfl); (try have c1 := hI.cell (i := 1) rfl); (try have c2 := hI.cell (i := 2) rfl); (try have c3 := hI.cell (i := 3) rfl); (try have c4 := hI.cell (i := 4) rfl); (try have c5 := hI.cell (i := 5) rfl); skip) | fail)
                  go_roundw
                  case rel => exact ⟨k + 1, by go_num, by omega, H2.out, hI.first _ [_] rfl⟩
                  case measure => simp [intOf]; omega
              · have H2 := Lib.hid (show modE m = 8 by rw [H.out, HF.out, fromI_no HX.out (by rw [expE_twice h3 h4]; rfl), expE_twice h3 h4]; rfl)
                go_wp2_with (first | (refine listI rfl fun K hK => wpI_alloc 47 rfl hI Tryz.zeroValue47 (cs := #[.string ⟨#[]⟩, .int .i64 0]) (by first | rfl | kernel_rfl) fun gx w' hI' hb => hK _ _ ?_; clear hK K; (try clear hb); clear hI; have hI := hI'; clear hI'; (try simp only [mm, Act.put, Act.eval] at hI); (try clear c0); (try clear c1); (try clear c2); (try clear c3); (try clear c4); (try clear c5); (try have c0 := hI.cell (i := 0) rfl); (try have c1 := hI.cell (i := 1) rfl); (try have c2 := hI.cell (i := 2) rfl); (try have c3 := hI.cell (i := 3) rfl); (try have c4 := hI.cell (i := 4) rfl); (try have c5 := hI.cell (i := 5) rfl); skip) | (refine listI rfl fun K hK => wpI_storeW _ _ _ rfl hI rfl 1 rfl rfl rfl (by kernel_rfl) (by simp [Value.oneCell']) fun w' hI' => hK _ _ ?_; clear hK K; (try clear hb); clear hI; have hI := hI'; clear hI'; (try simp only [mm, Act.put, Act.eval] at hI); (try clear c0); (try clear c1); (try clear c2); (try clear c3); (try clear c4); (try clear c5); (try have c0 := hI.cell (i := 0) rfl); (try have c1 := hI.cell (i := 1) rfl); (try have c2 := hI.cell (i := 2) rfl); (try have c3 := hI.cell (i := 3) rfl); (try have c4 := hI.cell (i := 4) rfl); (try have c5 := hI.cell (i := 5) rfl); skip) | (go_at_call 48; (with_reducible refine (h3 ▸ c_prog_IsName x.name _).mono ?_); intro e w' hr; obtain ⟨rfl, hb⟩ := hr; have hI' := hI.on hb; (try clear hb); clear hI; have hI := hI'; clear hI'; (try simp only [mm, Act.put, Act.eval] at hI); (try clear c0); (try clear c1); (try clear c2); (try clear c3); (try clear c4); (try clear c5); (try have c0 := hI.cell (i := 0) rfl); (try have c1 := hI.cell (i := 1) rfl); (try have c2 := hI.cell (i := 2) rfl); (try have c3 := hI.cell (i := 3) rfl); (try have c4 := hI.cell (i := 4) rfl); (try have c5 := hI.cell (i := 5) rfl); skip) | (go_at_call 49; (with_reducible refine (h4 ▸ c_ContainsL (some ⟨be, oe, none⟩) e k (m.exports.take k) gx x.name w' HT.out hT1.out ((hI.box (i := 1) rfl).lt) (hI.cell (i := 1) rfl 0) (hI.lies HE.out).front).mono ?_); intro e w' hr; obtain ⟨rfl, hb⟩ := hr; have hI' := hI.on hb; (try clear hb); clear hI; have hI := hI'; clear hI'; (try simp only [mm, Act.put, Act.eval] at hI); (try clear c0); (try clear c1); (try clear c2); (try clear c3); (try clear c4); (try clear c5); (try have c0 := hI.cell (i := 0) rfl); (try have c1 := hI.cell (i := 1) rfl); (try have c2 := hI.cell (i := 2) rfl); (try have c3 := hI.cell (i := 3) rfl); (try have c4 := hI.cell (i := 4) rfl); (try have c5 := hI.cell (i := 5) rfl); skip) | fail)
                go_returns
                exact Ret.int H2.out.symm hI.below
          · have hdk : decide (k < m.exports.length) = false := by simp; omega
            have H := Lib.hid (show modE m = fromI (impE m) m.imports 0 by rw [H.out, HF.out, fromI_end hge]; rfl)
            (try clear c0); (try clear c1); (try clear c2); (try clear c3); (try clear c4); (try clear c5); (try have c0 := hI.cell (i := 0) rfl); (try have c1 := hI.cell (i := 1) rfl); (try have c2 := hI.cell (i := 2) rfl); (try have c3 := hI.cell (i := 3) rfl); (try have c4 := hI.cell (i := 4) rfl); (try have c5 := hI.cell (i := 5) rfl); skip
            clear HF
            go_wp2_with fail
            go_loopw [77] (fun v wr => ∃ k : Nat, v = .int .i64 k ∧ k ≤ m.imports.length ∧ fromI (impE m) m.imports 0 = fromI (impE m) m.imports k ∧ (∀ x ∈ m.imports.take k, 0 ≤ x.slot ∧ x.slot ≤ 1000) ∧ Inv w [.box gm 51 #[.slice A m.code.length a, .slice D m.data.length d, .slice E m.exports.length e, .slice I m.imports.length i]] wr) (fun v _ => (m.imports.length - intOf v).toNat)
            case atStart => exact ⟨0, rfl, by omega, rfl, by simp, hI⟩
            case round =>
              clear hI hk
              obtain ⟨k, rfl, hk, hf, hpr, hI⟩ := hrel
              have HF := Lib.hid hf
              have HPR := Lib.hid hpr
              clear hf hpr
              rcases Nat.lt_or_ge k m.imports.length with hlt | hge
              · obtain ⟨bm, om, x, hII, hbm, hx, q0, q1⟩ := (hI.lies HM.out).cellsM hlt
                subst hII
                have HX := Lib.hid hx
                clear hx
                (try clear c0); (try clear c1); (try clear c2); (try clear c3); (try clear c4); (try clear c5); (try have c0 := hI.cell (i := 0) rfl); (try have c1 := hI.cell (i := 1) rfl); (try have c2 := hI.cell (i := 2) rfl); (try have c3 := hI.cell (i := 3) rfl); (try have c4 := hI.cell (i := 4) rfl); (try have c5 := hI.cell (i := 5) rfl); skip
                have HT := Lib.hid (show (m.imports.take k).length = k by rw [List.length_take]; omega)
                have hT1 := Lib.hid (show (m.imports.take k).length ≤ maxLen by rw [HT.out]; unfold maxLen; omega)
                have bnd : (0 : Int) ≤ (k : Int) ∧ (k : Int) ≤ m.imports.length ∧ (k : Int) ≤ i := by omega
                obtain ⟨bd1, bd2, bd3⟩ := bnd
                cases h3 : nameB x.name.data.toList
                · have H2 := Lib.hid (show modE m = 3 by rw [H.out, HF.out, fromI_no HX.out (by rw [impE_name h3]; rfl), impE_name h3])
                  go_wp2_with (first | (refine listI rfl fun K hK => wpI_alloc 114 rfl hI Tryz.zeroValue114 (cs := #[.string ⟨#[]⟩, .int .i64 0]) (by first | rfl | kernel_rfl) fun gx w' hI' hb => hK _ _ ?_; clear hK K; (try clear hb); clear hI; have hI := hI'; clear hI'; (try simp only [mm, Act.put, Act.eval] at hI); (try clear c0); (try clear c1); (try clear c2); (try clear c3); (try clear c4); (try clear c5); (try have c0 := hI.cell (i := 0) rfl); (try have c1 := hI.cell (i := 1) rfl); (try have c2 := hI.cell (i := 2) rfl); (try have c3 := hI.cell (i := 3) rfl); (try have c4 := hI.cell (i := 4) rfl); (try have c5 := hI.cell (i := 5) rfl); skip) | (refine listI rfl fun K hK => wpI_storeW _ _ _ rfl hI rfl 1 rfl rfl rfl (by kernel_rfl) (by simp [Value.oneCell']) fun w' hI' => hK _ _ ?_; clear hK K; (try clear hb); clear hI; have hI := hI'; clear hI'; (try simp only [mm, Act.put, Act.eval] at hI); (try clear c0); (try clear c1); (try clear c2); (try clear c3); (try clear c4); (try clear c5); (try have c0 := hI.cell (i := 0) rfl); (try have c1 := hI.cell (i := 1) rfl); (try have c2 := hI.cell (i := 2) rfl); (try have c3 := hI.cell (i := 3) rfl); (try have c4 := hI.cell (i := 4) rfl); (try have c5 := hI.cell (i := 5) rfl); skip) | (go_at_call 48; (with_reducible refine (h3 ▸ c_prog_IsName x.name _).mono ?_); intro e w' hr; obtain ⟨rfl, hb⟩ := hr; have hI' := hI.on hb; (try clear hb); clear hI; have hI := hI'; clear hI'; (try simp only [mm, Act.put, Act.eval] at hI); (try clear c0); (try clear c1); (try clear c2); (try clear c3); (try clear c4); (try clear c5); (try have c0 := hI.cell (i := 0) rfl); (try have c1 := hI.cell (i := 1) rfl); (try have c2 := hI.cell (i := 2) rfl); (try have c3 := hI.cell (i := 3) rfl); (try have c4 := hI.cell (i := 4) rfl); (try have c5 := hI.cell (i := 5) rfl); skip) | fail)
                  go_returns
                  exact Ret.int H2.out.symm hI.below
                · cases h5 : inR x.slot 0 (m.data.length - 2)
                  · have H2 := Lib.hid (show modE m = 13 by rw [H.out, HF.out, fromI_no HX.out (by rw [impE_out h3 h5]; rfl), impE_out h3 h5])
                    have h6 : x.slot < 0 ∨ (0 ≤ x.slot ∧ (m.data.length : Int) - 2 < x.slot) := by rw [inR_not] at h5; omega
                    clear h5
                    rcases h6 with h6 | ⟨h6, h7⟩
                    all_goals
                      go_wp2_with (first | (refine listI rfl fun K hK => wpI_alloc 114 rfl hI Tryz.zeroValue114 (cs := #[.string ⟨#[]⟩, .int .i64 0]) (by first | rfl | kernel_rfl) fun gx w' hI' hb => hK _ _ ?_; clear hK K; (try clear hb); clear hI; have hI := hI'; clear hI'; (try simp only [mm, Act.put, Act.eval] at hI); (try clear c0); (try clear c1); (try clear c2); (try clear c3); (try clear c4); (try clear c5); (try have c0 := hI.cell (i := 0) rfl); (try have c1 := hI.cell (i := 1) rfl); (try have c2 := hI.cell (i := 2) rfl); (try have c3 := hI.cell (i := 3) rfl); (try have c4 := hI.cell (i := 4) rfl); (try have c5 := hI.cell (i := 5) rfl); skip) | (refine listI rfl fun K hK => wpI_storeW _ _ _ rfl hI rfl 1 rfl rfl rfl (by kernel_rfl) (by simp [Value.oneCell']) fun w' hI' => hK _ _ ?_; clear hK K; (try clear hb); clear hI; have hI := hI'; clear hI'; (try simp only [mm, Act.put, Act.eval] at hI); (try clear c0); (try clear c1); (try clear c2); (try clear c3); (try clear c4); (try clear c5); (try have c0 := hI.cell (i := 0) rfl); (try have c1 := hI.cell (i := 1) rfl); (try have c2 := hI.cell (i := 2) rfl); (try have c3 := hI.cell (i := 3) rfl); (try have c4 := hI.cell (i := 4) rfl); (try have c5 := hI.cell (i := 5) rfl); skip) | (go_at_call 48; (with_reducible refine (h3 ▸ c_prog_IsName x.name _).mono ?_); intro e w' hr; obtain ⟨rfl, hb⟩ := hr; have hI' := hI.on hb; (try clear hb); clear hI; have hI := hI'; clear hI'; (try simp only [mm, Act.put, Act.eval] at hI); (try clear c0); (try clear c1); (try clear c2); (try clear c3); (try clear c4); (try clear c5); (try have c0 := hI.cell (i := 0) rfl); (try have c1 := hI.cell (i := 1) rfl); (try have c2 := hI.cell (i := 2) rfl); (try have c3 := hI.cell (i := 3) rfl); (try have c4 := hI.cell (i := 4) rfl); (try have c5 := hI.cell (i := 5) rfl); skip) | fail)
                      go_returns
                      exact Ret.int H2.out.symm hI.below
                  · have h6 : 0 ≤ x.slot ∧ x.slot ≤ (m.data.length : Int) - 2 := by rw [inR_iff] at h5; omega
                    have hs2 : 0 ≤ x.slot ∧ x.slot ≤ 1000 := by omega
                    obtain ⟨h6, h7⟩ := h6
                    cases h4 : (m.imports.take k).any fun y => nearB x.slot y.slot
                    · have H2 := Lib.hid (show fromI (impE m) m.imports 0 = fromI (impE m) m.imports (k + 1) by rw [HF.out, fromI_ok HX.out (by rw [impE_in h3 h5 h4]; rfl)])
                      have HP2 := Lib.hid (show ∀ y ∈ m.imports.take (k + 1), 0 ≤ y.slot ∧ y.slot ≤ 1000 by
                        rw [List.take_add_one, HX.out]
                        intro y hy
                        rcases List.mem_append.1 hy with hy | hy
                        · exact HPR.out y hy
                        · simp at hy; subst hy; exact hs2)
                      clear h5
                      go_wp2_with (first | (refine listI rfl fun K hK => wpI_alloc 114 rfl hI Tryz.zeroValue114 (cs := #[.string ⟨#[]⟩, .int .i64 0]) (by first | rfl | kernel_rfl) fun gx w' hI' hb => hK _ _ ?_; clear hK K; (try clear hb); clear hI; have hI := hI'; clear hI'; (try simp only [mm, Act.put, Act.eval] at hI); (try clear c0); (try clear c1); (try clear c2); (try clear c3); (try clear c4); (try clear c5); (try have c0 := hI.cell (i := 0) rfl); (try have c1 := hI.cell (i := 1) rfl); (try have c2 := hI.cell (i := 2) rfl); (try have c3 := hI.cell (i := 3) rfl); (try have c4 := hI.cell (i := 4) rfl); (try have c5 := hI.cell (i := 5) rfl); skip) | (refine listI rfl fun K hK => wpI_storeW _ _ _ rfl hI rfl 1 rfl rfl rfl (by kernel_rfl) (by simp [Value.oneCell']) fun w' hI' => hK _ _ ?_; clear hK K; (try clear hb); clear hI; have hI := hI'; clear hI'; (try simp only [mm, Act.put, Act.eval] at hI); (try clear c0); (try clear c1); (try clear c2); (try clear c3); (try clear c4); (try clear c5); (try have c0 := hI.cell (i := 0) rfl); (try have c1 := hI.cell (i := 1) rfl); (try have c2 := hI.cell (i := 2) rfl); (try have c3 := hI.cell (i := 3) rfl); (try have c4 := hI.cell (i := 4) rfl); (try have c5 := hI.cell (i := 5) rfl); skip) | (go_at_call 48; (with_reducible refine (h3 ▸ c_prog_IsName x.name _).mono ?_); intro e w' hr; obtain ⟨rfl, hb⟩ := hr; have hI' := hI.on hb; (try clear hb); clear hI; have hI := hI'; clear hI'; (try simp only [mm, Act.put, Act.eval] at hI); (try clear c0); (try clear c1); (try clear c2); (try clear c3); (try clear c4); (try clear c5); (try have c0 := hI.cell (i := 0) rfl); (try have c1 := hI.cell (i := 1) rfl); (try have c2 := hI.cell (i := 2) rfl); (try have c3 := hI.cell (i := 3) rfl); (try have c4 := hI.cell (i := 4) rfl); (try have c5 := hI.cell (i := 5) rfl); skip) | (go_at_call 51; (with_reducible refine (h4 ▸ c_ContainsM (some ⟨bm, om, none⟩) i k (m.imports.take k) gx x.slot w' HT.out hT1.out hs2 HPR.out ((hI.box (i := 1) rfl).lt) (hI.cell (i := 1) rfl 1) (hI.lies HM.out).front).mono ?_); intro e w' hr; obtain ⟨rfl, hb⟩ := hr; have hI' := hI.on hb; (try clear hb); clear hI; have hI := hI'; clear hI'; (try simp only [mm, Act.put, Act.eval] at hI); (try clear c0); (try clear c1); (try clear c2); (try clear c3); (try clear c4); (try clear c5); (try have c0 := hI.cell (i := 0) rfl); (try have c1 := hI.cell (i := 1) rfl); (try have c2 := hI.cell (i := 2) rfl); (try have c3 := hI.cell (i := 3) rfl); (try have c4 := hI.cell (i := 4) rfl); (try have c5 := hI.cell (i := 5) rfl); skip) | fail)
                      go_roundw
                      case rel => exact ⟨k + 1, by go_num, by omega, H2.out, HP2.out, hI.first _ [_] rfl⟩
                      case measure => simp [intOf]; omega
                    · have H2 := Lib.hid (show modE m = 8 by rw [H.out, HF.out, fromI_no HX.out (by rw [impE_twice h3 h5 h4]; rfl), impE_twice h3 h5 h4])
                      clear h5
                      go_wp2_with (first | (refine listI rfl fun K hK => wpI_alloc 114 rfl hI Tryz.zeroValue114 (cs := #[.string ⟨#[]⟩, .int .i64 0]) (by first | rfl | kernel_rfl) fun gx w' hI' hb => hK _ _ ?_; clear hK K; (try clear hb); clear hI; have hI := hI'; clear hI'; (try simp only [mm, Act.put, Act.eval] at hI); (try clear c0); (try clear c1); (try clear c2); (try clear c3); (try clear c4); (try clear c5); (try have c0 := hI.cell (i := 0) rfl); (try have c1 := hI.cell (i := 1) rfl); (try have c2 := hI.cell (i := 2) rfl); (try have c3 := hI.cell (i := 3) rfl); (try have c4 := hI.cell (i := 4) rfl); (try have c5 := hI.cell (i := 5) rfl); skip) | (refine listI rfl fun K hK => wpI_storeW _ _ _ rfl hI rfl 1 rfl rfl rfl (by kernel_rfl) (by simp [Value.oneCell']) fun w' hI' => hK _ _ ?_; clear hK K; (try clear hb); clear hI; have hI := hI'; clear hI'; (try simp only [mm, Act.put, Act.eval] at hI); (try clear c0); (try clear c1); (try clear c2); (try clear c3); (try clear c4); (try clear c5); (try have c0 := hI.cell (i := 0) rfl); (try have c1 := hI.cell (i := 1) rfl); (try have c2 := hI.cell (i := 2) rfl); (try have c3 := hI.cell (i := 3) rfl); (try have c4 := hI.cell (i := 4) rfl); (try have c5 := hI.cell (i := 5) rfl); skip) | (go_at_call 48; (with_reducible refine (h3 ▸ c_prog_IsName x.name _).mono ?_); intro e w' hr; obtain ⟨rfl, hb⟩ := hr; have hI' := hI.on hb; (try clear hb); clear hI; have hI := hI'; clear hI'; (try simp only [mm, Act.put, Act.eval] at hI); (try clear c0); (try clear c1); (try clear c2); (try clear c3); (try clear c4); (try clear c5); (try have c0 := hI.cell (i := 0) rfl); (try have c1 := hI.cell (i := 1) rfl); (try have c2 := hI.cell (i := 2) rfl); (try have c3 := hI.cell (i := 3) rfl); (try have c4 := hI.cell (i := 4) rfl); (try have c5 := hI.cell (i := 5) rfl); skip) | (go_at_call 51; (with_reducible refine (h4 ▸ c_ContainsM (some ⟨bm, om, none⟩) i k (m.imports.take k) gx x.slot w' HT.out hT1.out hs2 HPR.out ((hI.box (i := 1) rfl).lt) (hI.cell (i := 1) rfl 1) (hI.lies HM.out).front).mono ?_); intro e w' hr; obtain ⟨rfl, hb⟩ := hr; have hI' := hI.on hb; (try clear hb); clear hI; have hI := hI'; clear hI'; (try simp only [mm, Act.put, Act.eval] at hI); (try clear c0); (try clear c1); (try clear c2); (try clear c3); (try clear c4); (try clear c5); (try have c0 := hI.cell (i := 0) rfl); (try have c1 := hI.cell (i := 1) rfl); (try have c2 := hI.cell (i := 2) rfl); (try have c3 := hI.cell (i := 3) rfl); (try have c4 := hI.cell (i := 4) rfl); (try have c5 := hI.cell (i := 5) rfl); skip) | fail)
                      go_returns
                      exact Ret.int H2.out.symm hI.below
              · have H2 := Lib.hid (show modE m = 0 by rw [H.out, HF.out, fromI_end hge])
                (try clear c0); (try clear c1); (try clear c2); (try clear c3); (try clear c4); (try clear c5); (try have c0 := hI.cell (i := 0) rfl); (try have c1 := hI.cell (i := 1) rfl); (try have c2 := hI.cell (i := 2) rfl); (try have c3 := hI.cell (i := 3) rfl); (try have c4 := hI.cell (i := 4) rfl); (try have c5 := hI.cell (i := 5) rfl); skip
                go_wp2_with fail
                go_returns
                exact Ret.int H2.out.symm hI.below
  · have H := Lib.hid (modE_large hl)
    have hd : 120 < m.code.length ∨ (m.code.length ≤ 120 ∧ 60 < m.data.length) ∨ (m.code.length ≤ 120 ∧ m.data.length ≤ 60 ∧ 20 < m.exports.length) ∨ (m.code.length ≤ 120 ∧ m.data.length ≤ 60 ∧ m.exports.length ≤ 20 ∧ 20 < m.imports.length) := by
      simp only [largeB, Bool.or_eq_true, decide_eq_true_eq] at hl
      omega
    clear hl
    rcases hd with h | ⟨h1, h2⟩ | ⟨h1, h2, h3⟩ | ⟨h1, h2, h3, h4⟩
    all_goals
      go_enter Tryz.func17, Tryz.ntmps17
      go_wp2_with (first | (refine listI rfl fun K hK => wpI_box _ _ rfl hI rfl fun gx w' hI' hb => hK _ _ ?_; clear hK K; (try clear hb); clear hI; have hI := hI'; clear hI'; (try simp only [mm, Act.put, Act.eval] at hI); (try clear c0); (try clear c1); (try clear c2); (try clear c3); (try clear c4); (try clear c5); (try have c0 := hI.cell (i := 0) rfl); (try have c1 := hI.cell (i := 1) rfl); (try have c2 := hI.cell (i := 2) rfl); (try have c3 := hI.cell (i := 3) rfl); (try have c4 := hI.cell (i := 4) rfl); (try have c5 := hI.cell (i := 5) rfl); skip) | (refine listI rfl fun K hK => wpI_box1 _ _ rfl hI rfl rfl fun gx w' hI' hb => hK _ _ ?_; clear hK K; (try clear hb); clear hI; have hI := hI'; clear hI'; (try simp only [mm, Act.put, Act.eval] at hI); (try clear c0); (try clear c1); (try clear c2); (try clear c3); (try clear c4); (try clear c5); (try have c0 := hI.cell (i := 0) rfl); (try have c1 := hI.cell (i := 1) rfl); (try have c2 := hI.cell (i := 2) rfl); (try have c3 := hI.cell (i := 3) rfl); (try have c4 := hI.cell (i := 4) rfl); (try have c5 := hI.cell (i := 5) rfl); skip) | fail)
      go_returns
      exact Ret.int H.out.symm hI.below
end Go.Proofs.YtbkjhdohkdeniaaGreatDoor
namespace Go.Proofs.YtbkjhdohkdeniaaGreatDoor
open Go.RowKit
set_option maxRecDepth 100000
section
variable {P : Program} {ops : Array Oper} {rest : List Oper} {o : Oper} {a : Act} {T : Nat → Prop} {w0 w : World} {rs : List Res} {K : Act → World → Prop} {Q : Exit → Act → World → Prop}
theorem wpI_slice2 (t e : TypeId) (x y : Operand) (ho : o.op = .buildSlice t 2 #[(0, x), (1, y)]) (hI : InvT T w0 rs w) (hu : P.underlying t = some (.slice e)) {v u : Value} (hx : a.eval x = v) (hy : a.eval y = u) (hv : v.oneCell' = true) (huc : u.oneCell' = true) {z : Value} (hie : (P.info? e).map (fun i => (i.zero, i.size)) = some (some z, 1)) (hz : z.oneCell' = true)
    (h : ∀ g w', InvT T w0 (rs ++ [.box g e [v, u].toArray]) w' → Below w.heap.size w w' → K (a.put o.dst (.slice (some ⟨g, 0, none⟩) 2 2)) w') : o.wp P a w K Q := by
  have hc : ∀ x : Value, x.oneCell' = true → x.cells = #[x] := fun x hx => by cases x <;> first | rfl | cases hx
  cases hi : P.info? e with
  | none => simp [hi] at hie
  | some i =>
    simp only [hi, Option.map_some, Option.some.injEq, Prod.mk.injEq] at hie
    obtain ⟨hz0, hsz⟩ := hie
    refine wp_buildSlice t e 2 #[(0, x), (1, y)] ho [v, u].toArray i z hu hi hz0 (by rw [hsz]; omega) (by rw [hsz]; omega) ?_ (h _ _ (hI.alloc e _) ((Below.refl _ _).alloc (Nat.le_refl _) _))
    have e1 : (#[(0, x), (1, y)].map fun (p : Nat × Operand) => match p with | (i, x) => (i, a.eval x)).toList = [(0, v), (1, u)] := by simp [hx, hy]
    have h2 : ∀ A : Array Value, A.size = 2 → ∃ p q, A = #[p, q] := fun A h => by
      obtain ⟨l⟩ := A
      match l, h with
      | [p, q], _ => exact ⟨p, q, rfl⟩
    obtain ⟨p, q, hpq⟩ := h2 ((Array.range (2 * i.size)).map (z.cells[· % z.cells.size]!)) (by simp [hsz])
    rw [e1, hpq, hsz]
    simp [Instr.fill, hc v hv, hc u huc]
end
theorem len_S : ∀ x, (encS x).length = 1 := fun _ => rfl
theorem len_I : ∀ x, (encI x).length = 1 := fun _ => rfl
theorem nums_app {k l : List Int} : numsB (k ++ l) = (numsB k && numsB l) := by unfold numsB; rw [List.all_append]
theorem nums_take {l : List Int} {k : Nat} {n : Int} (h : l[k]? = some n) (ha : numsB (l.take k) = true) (hn : (n != wr n) = false) : numsB (l.take (k + 1)) = true := by
  rw [List.take_add_one, h]
  unfold numsB at ha ⊢
  rw [List.all_append, ha]
  simpa [bne] using hn
theorem nums_not {l : List Int} {k : Nat} {n : Int} (h : l[k]? = some n) (hn : (n != wr n) = true) : numsB l = false := by
  unfold numsB
  rw [List.all_eq_false]; exact ⟨n, List.mem_of_getElem? h, by simpa [bne] using hn⟩
theorem any_names {l : List Label} {s : ByteArray} : ((l.map (·.name)).any fun y => decide (y = s)) = l.any fun y => decide (y.name = s) := by rw [List.any_map]; rfl
theorem two_len {l : List Import} {k : Nat} (h : k ≤ l.length) : ((l.take k).flatMap fun y => [y.slot, y.slot + 1]).length = 2 * k := by
  have : ∀ l : List Import, (l.flatMap fun y => [y.slot, y.slot + 1]).length = 2 * l.length := by
    intro l
    induction l with
    | nil => rfl
    | cons x l ih => rw [List.flatMap_cons, List.length_append, ih]; simp; omega
  rw [this, List.length_take]; omega
theorem near_cells {l : List Import} {s : Int} : ((l.flatMap fun y => [y.slot, y.slot + 1]).any (fun y => decide (y = s)) || (l.flatMap fun y => [y.slot, y.slot + 1]).any (fun y => decide (y = s + 1))) = l.any fun y => nearB s y.slot := by
  rw [Bool.eq_iff_iff]
  simp only [Bool.or_eq_true, List.any_eq_true, List.mem_flatMap, List.mem_cons, List.not_mem_nil, or_false, decide_eq_true_eq, nearB, Bool.and_eq_true]
  constructor
  · rintro (⟨z, ⟨y, hy, h⟩, hz⟩ | ⟨z, ⟨y, hy, h⟩, hz⟩) <;> exact ⟨y, hy, by omega, by omega⟩
  · rintro ⟨y, hy, h1, h2⟩
    rcases (show s = y.slot ∨ s = y.slot + 1 ∨ s + 1 = y.slot by omega) with h | h | h
    · exact .inl ⟨_, ⟨y, hy, .inl rfl⟩, h.symm⟩
    · exact .inl ⟨_, ⟨y, hy, .inr rfl⟩, h.symm⟩
    · exact .inr ⟨_, ⟨y, hy, .inl rfl⟩, h.symm⟩
set_option maxHeartbeats 40000000 in
theorem r_ModuleCheck (mv : Value) (m : Mod) (w : World) (hwf : m.Wf) (hm : ModV w w.heap.size mv m) :
    Calls Tryz.prog 45 #[mv] w (Ret (.int .i64 (modE m)) w) := by
  obtain ⟨A, D, E, I, a, d, e, i, rfl, -, -, -, -, he1, he2, hi1, hi2, hA, hD, hE, hM⟩ := hm.ex
  have HA := Lib.hid hA
  have HD := Lib.hid hD
  have HE := Lib.hid hE
  have HM := Lib.hid hM
  have HW := Lib.hid hwf
  clear hwf hm hA hD hE hM
  have hI := Inv.start w
  cases hl : largeB m
  · obtain ⟨g1, g2, g3, g4⟩ := largeB_no hl
    have hmx1 : m.code.length ≤ maxLen := by unfold maxLen; omega
    have hmx3 : m.code.length * 8 ≤ 140737488355328 := by omega
    have ex1 : m.exports.length ≤ 9223372036854775807 := by omega
    have HLg := Lib.hid hl
    clear hl
    go_enter Tryz.func45, Tryz.ntmps45
    go_wp2_with (first | (refine listI rfl fun K hK => wpI_box _ _ rfl hI rfl fun gx w' hI' hb => hK _ _ ?_; clear hK K; (try clear hb); clear hI; have hI := hI'; clear hI'; (try simp only [mm, Act.put, Act.eval] at hI); (try clear c0); (try clear c1); (try clear c2); (try clear c3); (try clear c4); (try clear c5); (try have c0 := hI.cell (i := 0) rfl); (try have c1 := hI.cell (i := 1) rfl); (try have c2 := hI.cell (i := 2) rfl); (try have c3 := hI.cell (i := 3) rfl); (try have c4 := hI.cell (i := 4) rfl); (try have c5 := hI.cell (i := 5) rfl); skip) | (refine listI rfl fun K hK => wpI_box1 _ _ rfl hI rfl rfl fun gx w' hI' hb => hK _ _ ?_; clear hK K; (try clear hb); clear hI; have hI := hI'; clear hI'; (try simp only [mm, Act.put, Act.eval] at hI); (try clear c0); (try clear c1); (try clear c2); (try clear c3); (try clear c4); (try clear c5); (try have c0 := hI.cell (i := 0) rfl); (try have c1 := hI.cell (i := 1) rfl); (try have c2 := hI.cell (i := 2) rfl); (try have c3 := hI.cell (i := 3) rfl); (try have c4 := hI.cell (i := 4) rfl); (try have c5 := hI.cell (i := 5) rfl); skip) | fail)
    obtain ⟨gm, rfl⟩ : ∃ y, y = gx := ⟨_, rfl⟩
    (refine wp_region_K [0] (by kernel_rfl) hI fun w' hI' hHeld => ?_; (try clear hb); clear hI; have hI := hI'; clear hI'; (try simp only [mm, Act.put, Act.eval] at hI); (try clear c0); (try clear c1); (try clear c2); (try clear c3); (try clear c4); (try clear c5); (try have c0 := hI.cell (i := 0) rfl); (try have c1 := hI.cell (i := 1) rfl); (try have c2 := hI.cell (i := 2) rfl); (try have c3 := hI.cell (i := 3) rfl); (try have c4 := hI.cell (i := 4) rfl); (try have c5 := hI.cell (i := 5) rfl); skip)
    (refine tk 0 ?_; (try simp only [np, Act.put]))
    (refine tk 1 ?_; (try simp only [np, Act.put]))
    (refine tk 3 ?_; (try simp only [np, Act.put]))
    (refine tk 4 ?_; (try simp only [np, Act.put]))
    (refine tk 7 ?_; (try simp only [np, Act.put]))
    refine oneH (i := 2) (by kernel_rfl) rfl (fun K hK => ?_)
    (go_simp; refine (r_Copy_I A a m.code _ hmx1 hmx3 (hI.lies HA.out)).mono ?_; rintro e w' ⟨A2, A2k, rfl, hO, -, hb⟩; have hI' := hI.ownrow hb hO; clear hO; refine hK.out _ _ (hI'.held (by simp)) (fun hHeld => ?_); clear hK K; (try clear hb); clear hI; have hI := hI'; clear hI'; (try simp only [mm, Act.put, Act.eval] at hI); (try clear c0); (try clear c1); (try clear c2); (try clear c3); (try clear c4); (try clear c5); (try have c0 := hI.cell (i := 0) rfl); (try have c1 := hI.cell (i := 1) rfl); (try have c2 := hI.cell (i := 2) rfl); (try have c3 := hI.cell (i := 3) rfl); (try have c4 := hI.cell (i := 4) rfl); (try have c5 := hI.cell (i := 5) rfl); skip; (try simp only [Act.put, List.setIfInBounds_toArray, List.set_cons_zero, List.set_cons_succ]))
    refine oneH (i := 5) (by kernel_rfl) rfl (fun K hK => ?_)
    (refine stepI rfl (wpI_app _ _ rfl el_I hI 1 rfl rfl rfl (hI.lies HD.out) rfl (by unfold maxLen; omega) (by omega) fun v' w' hI' => hK.out _ _ (hI'.held (by simp)) (fun hHeld => ?_)); clear hK K; (try clear hb); clear hI; have hI := hI'; clear hI'; (try simp only [mm, Act.put, Act.eval] at hI); (try clear c0); (try clear c1); (try clear c2); (try clear c3); (try clear c4); (try clear c5); (try have c0 := hI.cell (i := 0) rfl); (try have c1 := hI.cell (i := 1) rfl); (try have c2 := hI.cell (i := 2) rfl); (try have c3 := hI.cell (i := 3) rfl); (try have c4 := hI.cell (i := 4) rfl); (try have c5 := hI.cell (i := 5) rfl); skip; (try simp only [Act.put, List.setIfInBounds_toArray, List.set_cons_zero, List.set_cons_succ]))
    obtain ⟨A3, c3, hv⟩ := (hI.own (i := 1) rfl).form
    subst hv
    obtain ⟨al, hal0⟩ : ∃ al, al = m.code ++ m.data := ⟨_, rfl⟩
    rw [← hal0] at hI ⊢
    have hal : al.length ≤ 180 := by rw [hal0, List.length_append]; omega
    have HAL := Lib.hid hal0
    clear hal0
    (refine tk 6 ?_; (try simp only [np, Act.put]))
    refine wpAnyH_done (by kernel_rfl) ?_ _
    go_wp2_with fail
    go_loopw [40] (fun v wr => ∃ k : Nat, v = .int .i64 k ∧ k ≤ al.length ∧ numsB (al.take k) = true ∧ Inv w [.box gm 51 #[.slice A m.code.length a, .slice D m.data.length d, .slice E m.exports.length e, .slice I m.imports.length i], .row 3 1 (.slice A3 al.length c3) al.length (al.flatMap encI)] wr) (fun v _ => (al.length - intOf v).toNat)
    case atStart => exact ⟨0, rfl, by omega, rfl, hI⟩
    case round =>
      clear hI
      obtain ⟨k, rfl, hk, hall, hI⟩ := hrel
      have HN := Lib.hid hall
      clear hall
      rcases Nat.lt_or_ge k al.length with hlt | hge
      · obtain ⟨ba, oa, n, hAA, -, hn, q0⟩ := ((hI.own (i := 1) rfl).liesB (fun _ => rfl) rfl).cellsI hlt
        subst hAA
        have HX := Lib.hid hn
        clear hn
        (try clear c0); (try clear c1); (try clear c2); (try clear c3); (try clear c4); (try clear c5); (try have c0 := hI.cell (i := 0) rfl); (try have c1 := hI.cell (i := 1) rfl); (try have c2 := hI.cell (i := 2) rfl); (try have c3 := hI.cell (i := 3) rfl); (try have c4 := hI.cell (i := 4) rfl); (try have c5 := hI.cell (i := 5) rfl); skip
        cases h6 : (n != Go.Proofs.YtbkjhdohkdeniaaGreatDoor.wr n)
        · have H2 := Lib.hid (nums_take HX.out HN.out h6)
          have HN5 := Lib.hid (fun W => (show inR n (-2147483648) 2147483647 = true by rw [inR_wr, h6]; rfl) ▸ r_IsNumber n W)
          clear h6
          go_wp2_with (first | (go_at_call 75; (with_reducible refine (HN5.out _).mono ?_); rintro e w1 ⟨rfl, rfl⟩) | fail)
          go_roundw
          case rel => exact ⟨k + 1, by go_num, by omega, H2.out, hI⟩
          case measure => simp [intOf]; omega
        · have H2 := Lib.hid (show modE m = 1 from modE_num HLg.out (by rw [← nums_app, ← HAL.out]; exact nums_not HX.out h6))
          have HN5 := Lib.hid (fun W => (show inR n (-2147483648) 2147483647 = false by rw [inR_wr, h6]; rfl) ▸ r_IsNumber n W)
          clear h6
          go_wp2_with (first | (go_at_call 75; (with_reducible refine (HN5.out _).mono ?_); rintro e w1 ⟨rfl, rfl⟩) | fail)
          go_returns
          exact Ret.int H2.out.symm hI.below
      · have hdk : decide (k < al.length) = false := by simp; omega
        have H := Lib.hid (show modE m = seqE (fromI (expE m) m.exports 0) (fromI (impE m) m.imports 0) from modE_rest HLg.out (by rw [← nums_app, ← HAL.out]; have := HN.out; rwa [List.take_of_length_le hge] at this))
        clear HN
        have hI := hI.first [.box gm 51 #[.slice A m.code.length a, .slice D m.data.length d, .slice E m.exports.length e, .slice I m.imports.length i]] [_] rfl
        have hI := hI.nilrow 9 1
        simp only [List.cons_append, List.nil_append] at hI
        (try clear c0); (try clear c1); (try clear c2); (try clear c3); (try clear c4); (try clear c5); (try have c0 := hI.cell (i := 0) rfl); (try have c1 := hI.cell (i := 1) rfl); (try have c2 := hI.cell (i := 2) rfl); (try have c3 := hI.cell (i := 3) rfl); (try have c4 := hI.cell (i := 4) rfl); (try have c5 := hI.cell (i := 5) rfl); skip
        go_wp2_with fail
        go_loopw [5, 51] (fun vn v wr => ∃ k : Nat, v = .int .i64 k ∧ k ≤ m.exports.length ∧ fromI (expE m) m.exports 0 = fromI (expE m) m.exports k ∧ Inv w [.box gm 51 #[.slice A m.code.length a, .slice D m.data.length d, .slice E m.exports.length e, .slice I m.imports.length i], .row 9 1 vn ((m.exports.take k).map (·.name)).length (((m.exports.take k).map (·.name)).flatMap encS)] wr) (fun _ v _ => (m.exports.length - intOf v).toNat)
        case atStart => exact ⟨0, rfl, by omega, rfl, hI⟩
        case round =>
          clear hI hk hge hal
          obtain ⟨k, rfl, hk, hf, hI⟩ := hrel
          have HF := Lib.hid hf
          clear hf
          rcases Nat.lt_or_ge k m.exports.length with hlt | hge
          · obtain ⟨be, oe, x, hEE, hbe, hx, q0, q1⟩ := (hI.lies HE.out).cellsL hlt
            subst hEE
            have HX := Lib.hid hx
            clear hx
            obtain ⟨nl, hnl0⟩ : ∃ nl, nl = ((m.exports.take k).map (·.name)) := ⟨_, rfl⟩
            rw [← hnl0] at hI
            have HNQ := Lib.hid hnl0
            obtain ⟨V, c4, hv⟩ := (hI.own (i := 1) rfl).form
            subst hv
            have HNL := Lib.hid (show nl.length = k by rw [hnl0, List.length_map, List.length_take]; omega)
            have HN20 := Lib.hid (show nl.length ≤ maxLen by rw [HNL.out]; unfold maxLen; omega)
            have HAN := Lib.hid (show (nl.any fun y => decide (y = x.name)) = ((m.exports.take k).any fun y => decide (y.name = x.name)) by rw [hnl0]; exact any_names)
            clear hnl0
            (try clear c0); (try clear c1); (try clear c2); (try clear c3); (try clear c4); (try clear c5); (try have c0 := hI.cell (i := 0) rfl); (try have c1 := hI.cell (i := 1) rfl); (try have c2 := hI.cell (i := 2) rfl); (try have c3 := hI.cell (i := 3) rfl); (try have c4 := hI.cell (i := 4) rfl); (try have c5 := hI.cell (i := 5) rfl); skip
            cases h3 : nameB x.name.data.toList
            · have H2 := Lib.hid (show modE m = 3 by rw [H.out, HF.out, fromI_no HX.out (by rw [expE_name h3]; rfl), expE_name h3]; rfl)
              go_wp2_with (first | (refine listI rfl fun K hK => wpI_alloc 47 rfl hI Tryz.zeroValue47 (cs := #[.string ⟨#[]⟩, .int .i64 0]) (by first | rfl | kernel_rfl) fun gx w' hI' hb => hK _ _ ?_; clear hK K; (try clear hb); clear hI; have hI := hI'; clear hI'; (try simp only [mm, Act.put, Act.eval] at hI); (try clear c0); (try clear c1); (try clear c2); (try clear c3); (try clear c4); (try clear c5); (try have c0 := hI.cell (i := 0) rfl); (try have c1 := hI.cell (i := 1) rfl); (try have c2 := hI.cell (i := 2) rfl); (try have c3 := hI.cell (i := 3) rfl); (try have c4 := hI.cell (i := 4) rfl); (try have c5 := hI.cell (i := 5) rfl); skip) | (refine listI rfl fun K hK => wpI_storeW _ _ _ rfl hI rfl 2 rfl rfl rfl (by kernel_rfl) (by simp [Value.oneCell']) fun w' hI' => hK _ _ ?_; clear hK K; (try clear hb); clear hI; have hI := hI'; clear hI'; (try simp only [mm, Act.put, Act.eval] at hI); (try clear c0); (try clear c1); (try clear c2); (try clear c3); (try clear c4); (try clear c5); (try have c0 := hI.cell (i := 0) rfl); (try have c1 := hI.cell (i := 1) rfl); (try have c2 := hI.cell (i := 2) rfl); (try have c3 := hI.cell (i := 3) rfl); (try have c4 := hI.cell (i := 4) rfl); (try have c5 := hI.cell (i := 5) rfl); skip) | (go_at_call 37; (with_reducible refine (h3 ▸ r_IsName x.name _).mono ?_); intro e w' hr; obtain ⟨rfl, hb⟩ := hr; have hI' := hI.on hb; (try clear hb); clear hI; have hI := hI'; clear hI'; (try simp only [mm, Act.put, Act.eval] at hI); (try clear c0); (try clear c1); (try clear c2); (try clear c3); (try clear c4); (try clear c5); (try have c0 := hI.cell (i := 0) rfl); (try have c1 := hI.cell (i := 1) rfl); (try have c2 := hI.cell (i := 2) rfl); (try have c3 := hI.cell (i := 3) rfl); (try have c4 := hI.cell (i := 4) rfl); (try have c5 := hI.cell (i := 5) rfl); skip) | fail)
              go_returns
              exact Ret.int H2.out.symm hI.below
            · cases h4 : nl.any fun y => decide (y = x.name)
              · have h4' : ((m.exports.take k).any fun y => decide (y.name = x.name)) = false := by rw [← HAN.out]; exact h4
                cases h5 : inR x.pos 0 (m.code.length - 1)
                · have H2 := Lib.hid (show modE m = 13 by rw [H.out, HF.out, fromI_no HX.out (by rw [expE_out h3 h4' h5]; rfl), expE_out h3 h4' h5]; rfl)
                  clear h4'
                  go_wp2_with (first | (refine listI rfl fun K hK => wpI_alloc 47 rfl hI Tryz.zeroValue47 (cs := #[.string ⟨#[]⟩, .int .i64 0]) (by first | rfl | kernel_rfl) fun gx w' hI' hb => hK _ _ ?_; clear hK K; (try clear hb); clear hI; have hI := hI'; clear hI'; (try simp only [mm, Act.put, Act.eval] at hI); (try clear c0); (try clear c1); (try clear c2); (try clear c3); (try clear c4); (try clear c5); (try have c0 := hI.cell (i := 0) rfl); (try have c1 := hI.cell (i := 1) rfl); (try have c2 := hI.cell (i := 2) rfl); (try have c3 := hI.cell (i := 3) rfl); (try have c4 := hI.cell (i := 4) rfl); (try have c5 := hI.cell (i := 5) rfl); skip) | (refine listI rfl fun K hK => wpI_storeW _ _ _ rfl hI rfl 2 rfl rfl rfl (by kernel_rfl) (by simp [Value.oneCell']) fun w' hI' => hK _ _ ?_; clear hK K; (try clear hb); clear hI; have hI := hI'; clear hI'; (try simp only [mm, Act.put, Act.eval] at hI); (try clear c0); (try clear c1); (try clear c2); (try clear c3); (try clear c4); (try clear c5); (try have c0 := hI.cell (i := 0) rfl); (try have c1 := hI.cell (i := 1) rfl); (try have c2 := hI.cell (i := 2) rfl); (try have c3 := hI.cell (i := 3) rfl); (try have c4 := hI.cell (i := 4) rfl); (try have c5 := hI.cell (i := 5) rfl); skip) | (go_at_call 37; (with_reducible refine (h3 ▸ r_IsName x.name _).mono ?_); intro e w' hr; obtain ⟨rfl, hb⟩ := hr; have hI' := hI.on hb; (try clear hb); clear hI; have hI := hI'; clear hI'; (try simp only [mm, Act.put, Act.eval] at hI); (try clear c0); (try clear c1); (try clear c2); (try clear c3); (try clear c4); (try clear c5); (try have c0 := hI.cell (i := 0) rfl); (try have c1 := hI.cell (i := 1) rfl); (try have c2 := hI.cell (i := 2) rfl); (try have c3 := hI.cell (i := 3) rfl); (try have c4 := hI.cell (i := 4) rfl); (try have c5 := hI.cell (i := 5) rfl); skip) | (go_at_call 95; (with_reducible refine (h4 ▸ r_Has_S V c4 nl x.name w' HN20.out ((hI.own (i := 1) rfl).liesB len_S rfl)).mono ?_); intro e w' hr; obtain ⟨rfl, hb⟩ := hr; have hI' := hI.on hb; (try clear hb); clear hI; have hI := hI'; clear hI'; (try simp only [mm, Act.put, Act.eval] at hI); (try clear c0); (try clear c1); (try clear c2); (try clear c3); (try clear c4); (try clear c5); (try have c0 := hI.cell (i := 0) rfl); (try have c1 := hI.cell (i := 1) rfl); (try have c2 := hI.cell (i := 2) rfl); (try have c3 := hI.cell (i := 3) rfl); (try have c4 := hI.cell (i := 4) rfl); (try have c5 := hI.cell (i := 5) rfl); skip) | (go_at_call 39; (with_reducible refine (r_outside _ _ _ _).mono ?_); rintro e w1 ⟨rfl, rfl⟩) | (refine listI rfl fun K hK => wpI_slice1 _ 9 _ rfl hI Tryz.underlying57 (us := #[.string x.name]) rfl (size := 1) (by kernel_rfl) rfl fun gx w' hI' hb => hK _ _ ?_; clear hK K; (try clear hb); clear hI; have hI := hI'; clear hI'; (try simp only [mm, Act.put, Act.eval] at hI); (try clear c0); (try clear c1); (try clear c2); (try clear c3); (try clear c4); (try clear c5); (try have c0 := hI.cell (i := 0) rfl); (try have c1 := hI.cell (i := 1) rfl); (try have c2 := hI.cell (i := 2) rfl); (try have c3 := hI.cell (i := 3) rfl); (try have c4 := hI.cell (i := 4) rfl); (try have c5 := hI.cell (i := 5) rfl); skip) | (refine listI rfl fun K hK => wpI_app _ _ rfl el_S hI 1 rfl rfl (ys := [x.name]) rfl (hI.lies1 (i := 3) rfl _ (fun j hj => by rw [List.getElem?_toArray]; rfl)) rfl (by rw [HNL.out]; simp [maxLen]; omega) (by rw [HNL.out]; simp; omega) fun v' w' hI' => hK _ _ ?_; clear hK K; (try clear hb); clear hI; have hI := hI'; clear hI'; (try simp only [mm, Act.put, Act.eval] at hI); (try clear c0); (try clear c1); (try clear c2); (try clear c3); (try clear c4); (try clear c5); (try have c0 := hI.cell (i := 0) rfl); (try have c1 := hI.cell (i := 1) rfl); (try have c2 := hI.cell (i := 2) rfl); (try have c3 := hI.cell (i := 3) rfl); (try have c4 := hI.cell (i := 4) rfl); (try have c5 := hI.cell (i := 5) rfl); skip) | fail)
                  go_returns
                  exact Ret.int H2.out.symm hI.below
                · have H2 := Lib.hid (show fromI (expE m) m.exports 0 = fromI (expE m) m.exports (k + 1) by rw [HF.out, fromI_ok HX.out (by rw [expE_in h3 h4' h5]; rfl)])
                  clear h4'
                  go_wp2_with (first | (refine listI rfl fun K hK => wpI_alloc 47 rfl hI Tryz.zeroValue47 (cs := #[.string ⟨#[]⟩, .int .i64 0]) (by first | rfl | kernel_rfl) fun gx w' hI' hb => hK _ _ ?_; clear hK K; (try clear hb); clear hI; have hI := hI'; clear hI'; (try simp only [mm, Act.put, Act.eval] at hI); (try clear c0); (try clear c1); (try clear c2); (try clear c3); (try clear c4); (try clear c5); (try have c0 := hI.cell (i := 0) rfl); (try have c1 := hI.cell (i := 1) rfl); (try have c2 := hI.cell (i := 2) rfl); (try have c3 := hI.cell (i := 3) rfl); (try have c4 := hI.cell (i := 4) rfl); (try have c5 := hI.cell (i := 5) rfl); skip) | (refine listI rfl fun K hK => wpI_storeW _ _ _ rfl hI rfl 2 rfl rfl rfl (by kernel_rfl) (by simp [Value.oneCell']) fun w' hI' => hK _ _ ?_; clear hK K; (try clear hb); clear hI; have hI := hI'; clear hI'; (try simp only [mm, Act.put, Act.eval] at hI); (try clear c0); (try clear c1); (try clear c2); (try clear c3); (try clear c4); (try clear c5); (try have c0 := hI.cell (i := 0) rfl); (try have c1 := hI.cell (i := 1) rfl); (try have c2 := hI.cell (i := 2) rfl); (try have c3 := hI.cell (i := 3) rfl); (try have c4 := hI.cell (i := 4) rfl); (try have c5 := hI.cell (i := 5) rfl); skip) | (go_at_call 37; (with_reducible refine (h3 ▸ r_IsName x.name _).mono ?_); intro e w' hr; obtain ⟨rfl, hb⟩ := hr; have hI' := hI.on hb; (try clear hb); clear hI; have hI := hI'; clear hI'; (try simp only [mm, Act.put, Act.eval] at hI); (try clear c0); (try clear c1); (try clear c2); (try clear c3); (try clear c4); (try clear c5); (try have c0 := hI.cell (i := 0) rfl); (try have c1 := hI.cell (i := 1) rfl); (try have c2 := hI.cell (i := 2) rfl); (try have c3 := hI.cell (i := 3) rfl); (try have c4 := hI.cell (i := 4) rfl); (try have c5 := hI.cell (i := 5) rfl); skip) | (go_at_call 95; (with_reducible refine (h4 ▸ r_Has_S V c4 nl x.name w' HN20.out ((hI.own (i := 1) rfl).liesB len_S rfl)).mono ?_); intro e w' hr; obtain ⟨rfl, hb⟩ := hr; have hI' := hI.on hb; (try clear hb); clear hI; have hI := hI'; clear hI'; (try simp only [mm, Act.put, Act.eval] at hI); (try clear c0); (try clear c1); (try clear c2); (try clear c3); (try clear c4); (try clear c5); (try have c0 := hI.cell (i := 0) rfl); (try have c1 := hI.cell (i := 1) rfl); (try have c2 := hI.cell (i := 2) rfl); (try have c3 := hI.cell (i := 3) rfl); (try have c4 := hI.cell (i := 4) rfl); (try have c5 := hI.cell (i := 5) rfl); skip) | (go_at_call 39; (with_reducible refine (r_outside _ _ _ _).mono ?_); rintro e w1 ⟨rfl, rfl⟩) | (refine listI rfl fun K hK => wpI_slice1 _ 9 _ rfl hI Tryz.underlying57 (us := #[.string x.name]) rfl (size := 1) (by kernel_rfl) rfl fun gx w' hI' hb => hK _ _ ?_; clear hK K; (try clear hb); clear hI; have hI := hI'; clear hI'; (try simp only [mm, Act.put, Act.eval] at hI); (try clear c0); (try clear c1); (try clear c2); (try clear c3); (try clear c4); (try clear c5); (try have c0 := hI.cell (i := 0) rfl); (try have c1 := hI.cell (i := 1) rfl); (try have c2 := hI.cell (i := 2) rfl); (try have c3 := hI.cell (i := 3) rfl); (try have c4 := hI.cell (i := 4) rfl); (try have c5 := hI.cell (i := 5) rfl); skip) | (refine listI rfl fun K hK => wpI_app _ _ rfl el_S hI 1 rfl rfl (ys := [x.name]) rfl (hI.lies1 (i := 3) rfl _ (fun j hj => by rw [List.getElem?_toArray]; rfl)) rfl (by rw [HNL.out]; simp [maxLen]; omega) (by rw [HNL.out]; simp; omega) fun v' w' hI' => hK _ _ ?_; clear hK K; (try clear hb); clear hI; have hI := hI'; clear hI'; (try simp only [mm, Act.put, Act.eval] at hI); (try clear c0); (try clear c1); (try clear c2); (try clear c3); (try clear c4); (try clear c5); (try have c0 := hI.cell (i := 0) rfl); (try have c1 := hI.cell (i := 1) rfl); (try have c2 := hI.cell (i := 2) rfl); (try have c3 := hI.cell (i := 3) rfl); (try have c4 := hI.cell (i := 4) rfl); (try have c5 := hI.cell (i := 5) rfl); skip) | fail)
                  go_roundw
                  case rel => exact ⟨k + 1, by go_num, by omega, H2.out, (hI.first [_, _] [_, _] rfl).cast (by rw [HNQ.out, List.take_add_one, HX.out]; simp)⟩
                  case measure => simp [intOf]; omega
              · have h4' : ((m.exports.take k).any fun y => decide (y.name = x.name)) = true := by rw [← HAN.out]; exact h4
                have H2 := Lib.hid (show modE m = 8 by rw [H.out, HF.out, fromI_no HX.out (by rw [expE_twice h3 h4']; rfl), expE_twice h3 h4']; rfl)
                clear h4'
                go_wp2_with (first | (refine listI rfl fun K hK => wpI_alloc 47 rfl hI Tryz.zeroValue47 (cs := #[.string ⟨#[]⟩, .int .i64 0]) (by first | rfl | kernel_rfl) fun gx w' hI' hb => hK _ _ ?_; clear hK K; (try clear hb); clear hI; have hI := hI'; clear hI'; (try simp only [mm, Act.put, Act.eval] at hI); (try clear c0); (try clear c1); (try clear c2); (try clear c3); (try clear c4); (try clear c5); (try have c0 := hI.cell (i := 0) rfl); (try have c1 := hI.cell (i := 1) rfl); (try have c2 := hI.cell (i := 2) rfl); (try have c3 := hI.cell (i := 3) rfl); (try have c4 := hI.cell (i := 4) rfl); (try have c5 := hI.cell (i := 5) rfl); skip) | (refine listI rfl fun K hK => wpI_storeW _ _ _ rfl hI rfl 2 rfl rfl rfl (by kernel_rfl) (by simp [Value.oneCell']) fun w' hI' => hK _ _ ?_; clear hK K; (try clear hb); clear hI; have hI := hI'; clear hI'; (try simp only [mm, Act.put, Act.eval] at hI); (try clear c0); (try clear c1); (try clear c2); (try clear c3); (try clear c4); (try clear c5); (try have c0 := hI.cell (i := 0) rfl); (try have c1 := hI.cell (i := 1) rfl); (try have c2 := hI.cell (i := 2) rfl); (try have c3 := hI.cell (i := 3) rfl); (try have c4 := hI.cell (i := 4) rfl); (try have c5 := hI.cell (i := 5) rfl); skip) | (go_at_call 37; (with_reducible refine (h3 ▸ r_IsName x.name _).mono ?_); intro e w' hr; obtain ⟨rfl, hb⟩ := hr; have hI' := hI.on hb; (try clear hb); clear hI; have hI := hI'; clear hI'; (try simp only [mm, Act.put, Act.eval] at hI); (try clear c0); (try clear c1); (try clear c2); (try clear c3); (try clear c4); (try clear c5); (try have c0 := hI.cell (i := 0) rfl); (try have c1 := hI.cell (i := 1) rfl); (try have c2 := hI.cell (i := 2) rfl); (try have c3 := hI.cell (i := 3) rfl); (try have c4 := hI.cell (i := 4) rfl); (try have c5 := hI.cell (i := 5) rfl); skip) | (go_at_call 95; (with_reducible refine (h4 ▸ r_Has_S V c4 nl x.name w' HN20.out ((hI.own (i := 1) rfl).liesB len_S rfl)).mono ?_); intro e w' hr; obtain ⟨rfl, hb⟩ := hr; have hI' := hI.on hb; (try clear hb); clear hI; have hI := hI'; clear hI'; (try simp only [mm, Act.put, Act.eval] at hI); (try clear c0); (try clear c1); (try clear c2); (try clear c3); (try clear c4); (try clear c5); (try have c0 := hI.cell (i := 0) rfl); (try have c1 := hI.cell (i := 1) rfl); (try have c2 := hI.cell (i := 2) rfl); (try have c3 := hI.cell (i := 3) rfl); (try have c4 := hI.cell (i := 4) rfl); (try have c5 := hI.cell (i := 5) rfl); skip) | fail)
                go_returns
                exact Ret.int H2.out.symm hI.below
          · have hdk2 : decide (k < m.exports.length) = false := by simp; omega
            have H1 := Lib.hid (show modE m = fromI (impE m) m.imports 0 by rw [H.out, HF.out, fromI_end hge]; rfl)
            clear H HF
            have H := H1
            have hI := hI.first [.box gm 51 #[.slice A m.code.length a, .slice D m.data.length d, .slice E m.exports.length e, .slice I m.imports.length i]] [_] rfl
            have hI := hI.nilrow 3 1
            simp only [List.cons_append, List.nil_append] at hI
            (try clear c0); (try clear c1); (try clear c2); (try clear c3); (try clear c4); (try clear c5); (try have c0 := hI.cell (i := 0) rfl); (try have c1 := hI.cell (i := 1) rfl); (try have c2 := hI.cell (i := 2) rfl); (try have c3 := hI.cell (i := 3) rfl); (try have c4 := hI.cell (i := 4) rfl); (try have c5 := hI.cell (i := 5) rfl); skip
            go_wp2_with fail
            go_loopw [8, 79] (fun vn v wr => ∃ k : Nat, v = .int .i64 k ∧ k ≤ m.imports.length ∧ fromI (impE m) m.imports 0 = fromI (impE m) m.imports k ∧ Inv w [.box gm 51 #[.slice A m.code.length a, .slice D m.data.length d, .slice E m.exports.length e, .slice I m.imports.length i], .row 3 1 vn ((m.imports.take k).flatMap fun y => [y.slot, y.slot + 1]).length (((m.imports.take k).flatMap fun y => [y.slot, y.slot + 1]).flatMap encI)] wr) (fun _ v _ => (m.imports.length - intOf v).toNat)
            case atStart => exact ⟨0, rfl, by omega, rfl, hI⟩
            case round =>
              clear hI hk hge
              obtain ⟨k, rfl, hk, hf, hI⟩ := hrel
              have HF := Lib.hid hf
              clear hf
              rcases Nat.lt_or_ge k m.imports.length with hlt | hge
              · obtain ⟨bm, om, x, hII, hbm, hx, q0, q1⟩ := (hI.lies HM.out).cellsM hlt
                subst hII
                have HX := Lib.hid hx
                clear hx
                obtain ⟨nl, hnl0⟩ : ∃ nl, nl = ((m.imports.take k).flatMap fun y => [y.slot, y.slot + 1]) := ⟨_, rfl⟩
                rw [← hnl0] at hI
                have HNQ := Lib.hid hnl0
                obtain ⟨V, c4, hv⟩ := (hI.own (i := 1) rfl).form
                subst hv
                have HNL := Lib.hid (show nl.length = 2 * k by rw [hnl0]; exact two_len (by omega))
                have HN20 := Lib.hid (show nl.length ≤ maxLen by rw [HNL.out]; unfold maxLen; omega)
                have HAN := Lib.hid (show (nl.any (fun y => decide (y = x.slot)) || nl.any (fun y => decide (y = x.slot + 1))) = (m.imports.take k).any fun y => nearB x.slot y.slot by rw [hnl0]; exact near_cells)
                clear hnl0
                (try clear c0); (try clear c1); (try clear c2); (try clear c3); (try clear c4); (try clear c5); (try have c0 := hI.cell (i := 0) rfl); (try have c1 := hI.cell (i := 1) rfl); (try have c2 := hI.cell (i := 2) rfl); (try have c3 := hI.cell (i := 3) rfl); (try have c4 := hI.cell (i := 4) rfl); (try have c5 := hI.cell (i := 5) rfl); skip
                cases h3 : nameB x.name.data.toList
                · have H2 := Lib.hid (show modE m = 3 by rw [H.out, HF.out, fromI_no HX.out (by rw [impE_name h3]; rfl), impE_name h3])
                  go_wp2_with (first | (refine listI rfl fun K hK => wpI_alloc 114 rfl hI Tryz.zeroValue114 (cs := #[.string ⟨#[]⟩, .int .i64 0]) (by first | rfl | kernel_rfl) fun gx w' hI' hb => hK _ _ ?_; clear hK K; (try clear hb); clear hI; have hI := hI'; clear hI'; (try simp only [mm, Act.put, Act.eval] at hI); (try clear c0); (try clear c1); (try clear c2); (try clear c3); (try clear c4); (try clear c5); (try have c0 := hI.cell (i := 0) rfl); (try have c1 := hI.cell (i := 1) rfl); (try have c2 := hI.cell (i := 2) rfl); (try have c3 := hI.cell (i := 3) rfl); (try have c4 := hI.cell (i := 4) rfl); (try have c5 := hI.cell (i := 5) rfl); skip) | (refine listI rfl fun K hK => wpI_storeW _ _ _ rfl hI rfl 2 rfl rfl rfl (by kernel_rfl) (by simp [Value.oneCell']) fun w' hI' => hK _ _ ?_; clear hK K; (try clear hb); clear hI; have hI := hI'; clear hI'; (try simp only [mm, Act.put, Act.eval] at hI); (try clear c0); (try clear c1); (try clear c2); (try clear c3); (try clear c4); (try clear c5); (try have c0 := hI.cell (i := 0) rfl); (try have c1 := hI.cell (i := 1) rfl); (try have c2 := hI.cell (i := 2) rfl); (try have c3 := hI.cell (i := 3) rfl); (try have c4 := hI.cell (i := 4) rfl); (try have c5 := hI.cell (i := 5) rfl); skip) | (go_at_call 37; (with_reducible refine (h3 ▸ r_IsName x.name _).mono ?_); intro e w' hr; obtain ⟨rfl, hb⟩ := hr; have hI' := hI.on hb; (try clear hb); clear hI; have hI := hI'; clear hI'; (try simp only [mm, Act.put, Act.eval] at hI); (try clear c0); (try clear c1); (try clear c2); (try clear c3); (try clear c4); (try clear c5); (try have c0 := hI.cell (i := 0) rfl); (try have c1 := hI.cell (i := 1) rfl); (try have c2 := hI.cell (i := 2) rfl); (try have c3 := hI.cell (i := 3) rfl); (try have c4 := hI.cell (i := 4) rfl); (try have c5 := hI.cell (i := 5) rfl); skip) | fail)
                  go_returns
                  exact Ret.int H2.out.symm hI.below
                · cases h6 : inR x.slot 0 (m.data.length - 2)
                  · have H2 := Lib.hid (show modE m = 13 by rw [H.out, HF.out, fromI_no HX.out (by rw [impE_out h3 h6]; rfl), impE_out h3 h6])
                    go_wp2_with (first | (refine listI rfl fun K hK => wpI_alloc 114 rfl hI Tryz.zeroValue114 (cs := #[.string ⟨#[]⟩, .int .i64 0]) (by first | rfl | kernel_rfl) fun gx w' hI' hb => hK _ _ ?_; clear hK K; (try clear hb); clear hI; have hI := hI'; clear hI'; (try simp only [mm, Act.put, Act.eval] at hI); (try clear c0); (try clear c1); (try clear c2); (try clear c3); (try clear c4); (try clear c5); (try have c0 := hI.cell (i := 0) rfl); (try have c1 := hI.cell (i := 1) rfl); (try have c2 := hI.cell (i := 2) rfl); (try have c3 := hI.cell (i := 3) rfl); (try have c4 := hI.cell (i := 4) rfl); (try have c5 := hI.cell (i := 5) rfl); skip) | (refine listI rfl fun K hK => wpI_storeW _ _ _ rfl hI rfl 2 rfl rfl rfl (by kernel_rfl) (by simp [Value.oneCell']) fun w' hI' => hK _ _ ?_; clear hK K; (try clear hb); clear hI; have hI := hI'; clear hI'; (try simp only [mm, Act.put, Act.eval] at hI); (try clear c0); (try clear c1); (try clear c2); (try clear c3); (try clear c4); (try clear c5); (try have c0 := hI.cell (i := 0) rfl); (try have c1 := hI.cell (i := 1) rfl); (try have c2 := hI.cell (i := 2) rfl); (try have c3 := hI.cell (i := 3) rfl); (try have c4 := hI.cell (i := 4) rfl); (try have c5 := hI.cell (i := 5) rfl); skip) | (go_at_call 37; (with_reducible refine (h3 ▸ r_IsName x.name _).mono ?_); intro e w' hr; obtain ⟨rfl, hb⟩ := hr; have hI' := hI.on hb; (try clear hb); clear hI; have hI := hI'; clear hI'; (try simp only [mm, Act.put, Act.eval] at hI); (try clear c0); (try clear c1); (try clear c2); (try clear c3); (try clear c4); (try clear c5); (try have c0 := hI.cell (i := 0) rfl); (try have c1 := hI.cell (i := 1) rfl); (try have c2 := hI.cell (i := 2) rfl); (try have c3 := hI.cell (i := 3) rfl); (try have c4 := hI.cell (i := 4) rfl); (try have c5 := hI.cell (i := 5) rfl); skip) | (go_at_call 39; (with_reducible refine (r_outside _ _ _ _).mono ?_); rintro e w1 ⟨rfl, rfl⟩) | fail)
                    go_returns
                    exact Ret.int H2.out.symm hI.below
                  · have h7 : 0 ≤ x.slot ∧ x.slot ≤ (m.data.length : Int) - 2 := by rw [inR_iff] at h6; omega
                    obtain ⟨h7, h8⟩ := h7
                    cases h4 : nl.any fun y => decide (y = x.slot)
                    · cases h5 : nl.any fun y => decide (y = x.slot + 1)
                      · have h4' : ((m.imports.take k).any fun y => nearB x.slot y.slot) = false := by rw [← HAN.out, h4, h5]; rfl
                        have H2 := Lib.hid (show fromI (impE m) m.imports 0 = fromI (impE m) m.imports (k + 1) by rw [HF.out, fromI_ok HX.out (by rw [impE_in h3 h6 h4']; rfl)])
                        clear h4'
                        go_wp2_with (first | (refine listI rfl fun K hK => wpI_alloc 114 rfl hI Tryz.zeroValue114 (cs := #[.string ⟨#[]⟩, .int .i64 0]) (by first | rfl | kernel_rfl) fun gx w' hI' hb => hK _ _ ?_; clear hK K; (try clear hb); clear hI; have hI := hI'; clear hI'; (try simp only [mm, Act.put, Act.eval] at hI); (try clear c0); (try clear c1); (try clear c2); (try clear c3); (try clear c4); (try clear c5); (try have c0 := hI.cell (i := 0) rfl); (try have c1 := hI.cell (i := 1) rfl); (try have c2 := hI.cell (i := 2) rfl); (try have c3 := hI.cell (i := 3) rfl); (try have c4 := hI.cell (i := 4) rfl); (try have c5 := hI.cell (i := 5) rfl); skip) | (refine listI rfl fun K hK => wpI_storeW _ _ _ rfl hI rfl 2 rfl rfl rfl (by kernel_rfl) (by simp [Value.oneCell']) fun w' hI' => hK _ _ ?_; clear hK K; (try clear hb); clear hI; have hI := hI'; clear hI'; (try simp only [mm, Act.put, Act.eval] at hI); (try clear c0); (try clear c1); (try clear c2); (try clear c3); (try clear c4); (try clear c5); (try have c0 := hI.cell (i := 0) rfl); (try have c1 := hI.cell (i := 1) rfl); (try have c2 := hI.cell (i := 2) rfl); (try have c3 := hI.cell (i := 3) rfl); (try have c4 := hI.cell (i := 4) rfl); (try have c5 := hI.cell (i := 5) rfl); skip) | (go_at_call 37; (with_reducible refine (h3 ▸ r_IsName x.name _).mono ?_); intro e w' hr; obtain ⟨rfl, hb⟩ := hr; have hI' := hI.on hb; (try clear hb); clear hI; have hI := hI'; clear hI'; (try simp only [mm, Act.put, Act.eval] at hI); (try clear c0); (try clear c1); (try clear c2); (try clear c3); (try clear c4); (try clear c5); (try have c0 := hI.cell (i := 0) rfl); (try have c1 := hI.cell (i := 1) rfl); (try have c2 := hI.cell (i := 2) rfl); (try have c3 := hI.cell (i := 3) rfl); (try have c4 := hI.cell (i := 4) rfl); (try have c5 := hI.cell (i := 5) rfl); skip) | (go_at_call 39; (with_reducible refine (r_outside _ _ _ _).mono ?_); rintro e w1 ⟨rfl, rfl⟩) | (go_at_call_of 96 (Value.int IntKind.i64 x.slot); (with_reducible refine (h4 ▸ r_Has_I V c4 nl x.slot w' HN20.out ((hI.own (i := 1) rfl).liesB len_I rfl)).mono ?_); intro e w' hr; obtain ⟨rfl, hb⟩ := hr; have hI' := hI.on hb; (try clear hb); clear hI; have hI := hI'; clear hI'; (try simp only [mm, Act.put, Act.eval] at hI); (try clear c0); (try clear c1); (try clear c2); (try clear c3); (try clear c4); (try clear c5); (try have c0 := hI.cell (i := 0) rfl); (try have c1 := hI.cell (i := 1) rfl); (try have c2 := hI.cell (i := 2) rfl); (try have c3 := hI.cell (i := 3) rfl); (try have c4 := hI.cell (i := 4) rfl); (try have c5 := hI.cell (i := 5) rfl); skip) | (go_at_call 96; (with_reducible refine (h5 ▸ r_Has_I V c4 nl (x.slot + 1) w' HN20.out ((hI.own (i := 1) rfl).liesB len_I rfl)).mono ?_); intro e w' hr; obtain ⟨rfl, hb⟩ := hr; have hI' := hI.on hb; (try clear hb); clear hI; have hI := hI'; clear hI'; (try simp only [mm, Act.put, Act.eval] at hI); (try clear c0); (try clear c1); (try clear c2); (try clear c3); (try clear c4); (try clear c5); (try have c0 := hI.cell (i := 0) rfl); (try have c1 := hI.cell (i := 1) rfl); (try have c2 := hI.cell (i := 2) rfl); (try have c3 := hI.cell (i := 3) rfl); (try have c4 := hI.cell (i := 4) rfl); (try have c5 := hI.cell (i := 5) rfl); skip) | (refine listI rfl fun K hK => wpI_slice2 _ 3 _ _ rfl hI Tryz.underlying32 rfl rfl rfl rfl (z := .int .i64 0) (by kernel_rfl) rfl fun gx w' hI' hb => hK _ _ ?_; clear hK K; (try clear hb); clear hI; have hI := hI'; clear hI'; (try simp only [mm, Act.put, Act.eval] at hI); (try clear c0); (try clear c1); (try clear c2); (try clear c3); (try clear c4); (try clear c5); (try have c0 := hI.cell (i := 0) rfl); (try have c1 := hI.cell (i := 1) rfl); (try have c2 := hI.cell (i := 2) rfl); (try have c3 := hI.cell (i := 3) rfl); (try have c4 := hI.cell (i := 4) rfl); (try have c5 := hI.cell (i := 5) rfl); skip) | (refine listI rfl fun K hK => wpI_app _ _ rfl el_I hI 1 rfl rfl (ys := [x.slot, x.slot + 1]) rfl (hI.liesL (i := 3) rfl _ rfl (fun _ => rfl)) rfl (by rw [HNL.out]; simp [maxLen]; omega) (by rw [HNL.out]; simp; omega) fun v' w' hI' => hK _ _ ?_; clear hK K; (try clear hb); clear hI; have hI := hI'; clear hI'; (try simp only [mm, Act.put, Act.eval] at hI); (try clear c0); (try clear c1); (try clear c2); (try clear c3); (try clear c4); (try clear c5); (try have c0 := hI.cell (i := 0) rfl); (try have c1 := hI.cell (i := 1) rfl); (try have c2 := hI.cell (i := 2) rfl); (try have c3 := hI.cell (i := 3) rfl); (try have c4 := hI.cell (i := 4) rfl); (try have c5 := hI.cell (i := 5) rfl); skip) | fail)
                        go_roundw
                        case rel => exact ⟨k + 1, by go_num, by omega, H2.out, (hI.first [_, _] [_, _] rfl).cast (by rw [HNQ.out, List.take_add_one, HX.out]; simp)⟩
                        case measure => simp [intOf]; omega
                      · have h4' : ((m.imports.take k).any fun y => nearB x.slot y.slot) = true := by rw [← HAN.out, h4, h5]; rfl
                        have H2 := Lib.hid (show modE m = 8 by rw [H.out, HF.out, fromI_no HX.out (by rw [impE_twice h3 h6 h4']; rfl), impE_twice h3 h6 h4'])
                        clear h4'
                        go_wp2_with (first | (refine listI rfl fun K hK => wpI_alloc 114 rfl hI Tryz.zeroValue114 (cs := #[.string ⟨#[]⟩, .int .i64 0]) (by first | rfl | kernel_rfl) fun gx w' hI' hb => hK _ _ ?_; clear hK K; (try clear hb); clear hI; have hI := hI'; clear hI'; (try simp only [mm, Act.put, Act.eval] at hI); (try clear c0); (try clear c1); (try clear c2); (try clear c3); (try clear c4); (try clear c5); (try have c0 := hI.cell (i := 0) rfl); (try have c1 := hI.cell (i := 1) rfl); (try have c2 := hI.cell (i := 2) rfl); (try have c3 := hI.cell (i := 3) rfl); (try have c4 := hI.cell (i := 4) rfl); (try have c5 := hI.cell (i := 5) rfl); skip) | (refine listI rfl fun K hK => wpI_storeW _ _ _ rfl hI rfl 2 rfl rfl rfl (by kernel_rfl) (by simp [Value.oneCell']) fun w' hI' => hK _ _ ?_; clear hK K; (try clear hb); clear hI; have hI := hI'; clear hI'; (try simp only [mm, Act.put, Act.eval] at hI); (try clear c0); (try clear c1); (try clear c2); (try clear c3); (try clear c4); (try clear c5); (try have c0 := hI.cell (i := 0) rfl); (try have c1 := hI.cell (i := 1) rfl); (try have c2 := hI.cell (i := 2) rfl); (try have c3 := hI.cell (i := 3) rfl); (try have c4 := hI.cell (i := 4) rfl); (try have c5 := hI.cell (i := 5) rfl); skip) | (go_at_call 37; (with_reducible refine (h3 ▸ r_IsName x.name _).mono ?_); intro e w' hr; obtain ⟨rfl, hb⟩ := hr; have hI' := hI.on hb; (try clear hb); clear hI; have hI := hI'; clear hI'; (try simp only [mm, Act.put, Act.eval] at hI); (try clear c0); (try clear c1); (try clear c2); (try clear c3); (try clear c4); (try clear c5); (try have c0 := hI.cell (i := 0) rfl); (try have c1 := hI.cell (i := 1) rfl); (try have c2 := hI.cell (i := 2) rfl); (try have c3 := hI.cell (i := 3) rfl); (try have c4 := hI.cell (i := 4) rfl); (try have c5 := hI.cell (i := 5) rfl); skip) | (go_at_call 39; (with_reducible refine (r_outside _ _ _ _).mono ?_); rintro e w1 ⟨rfl, rfl⟩) | (go_at_call_of 96 (Value.int IntKind.i64 x.slot); (with_reducible refine (h4 ▸ r_Has_I V c4 nl x.slot w' HN20.out ((hI.own (i := 1) rfl).liesB len_I rfl)).mono ?_); intro e w' hr; obtain ⟨rfl, hb⟩ := hr; have hI' := hI.on hb; (try clear hb); clear hI; have hI := hI'; clear hI'; (try simp only [mm, Act.put, Act.eval] at hI); (try clear c0); (try clear c1); (try clear c2); (try clear c3); (try clear c4); (try clear c5); (try have c0 := hI.cell (i := 0) rfl); (try have c1 := hI.cell (i := 1) rfl); (try have c2 := hI.cell (i := 2) rfl); (try have c3 := hI.cell (i := 3) rfl); (try have c4 := hI.cell (i := 4) rfl); (try have c5 := hI.cell (i := 5) rfl); skip) | (go_at_call 96; (with_reducible refine (h5 ▸ r_Has_I V c4 nl (x.slot + 1) w' HN20.out ((hI.own (i := 1) rfl).liesB len_I rfl)).mono ?_); intro e w' hr; obtain ⟨rfl, hb⟩ := hr; have hI' := hI.on hb; (try clear hb); clear hI; have hI := hI'; clear hI'; (try simp only [mm, Act.put, Act.eval] at hI); (try clear c0); (try clear c1); (try clear c2); (try clear c3); (try clear c4); (try clear c5); (try have c0 := hI.cell (i := 0) rfl); (try have c1 := hI.cell (i := 1) rfl); (try have c2 := hI.cell (i := 2) rfl); (try have c3 := hI.cell (i := 3) rfl); (try have c4 := hI.cell (i := 4) rfl); (try have c5 := hI.cell (i := 5) rfl); skip) | fail)
                        go_returns
                        exact Ret.int H2.out.symm hI.below
                    · have h4' : ((m.imports.take k).any fun y => nearB x.slot y.slot) = true := by rw [← HAN.out, h4]; rfl
                      have H2 := Lib.hid (show modE m = 8 by rw [H.out, HF.out, fromI_no HX.out (by rw [impE_twice h3 h6 h4']; rfl), impE_twice h3 h6 h4'])
                      clear h4'
                      go_wp2_with (first | (refine listI rfl fun K hK => wpI_alloc 114 rfl hI Tryz.zeroValue114 (cs := #[.string ⟨#[]⟩, .int .i64 0]) (by first | rfl | kernel_rfl) fun gx w' hI' hb => hK _ _ ?_; clear hK K; (try clear hb); clear hI; have hI := hI'; clear hI'; (try simp only [mm, Act.put, Act.eval] at hI); (try clear c0); (try clear c1); (try clear c2); (try clear c3); (try clear c4); (try clear c5); (try have c0 := hI.cell (i := 0) rfl); (try have c1 := hI.cell (i := 1) rfl); (try have c2 := hI.cell (i := 2) rfl); (try have c3 := hI.cell (i := 3) rfl); (try have c4 := hI.cell (i := 4) rfl); (try have c5 := hI.cell (i := 5) rfl); skip) | (refine listI rfl fun K hK => wpI_storeW _ _ _ rfl hI rfl 2 rfl rfl rfl (by kernel_rfl) (by simp [Value.oneCell']) fun w' hI' => hK _ _ ?_; clear hK K; (try clear hb); clear hI; have hI := hI'; clear hI'; (try simp only [mm, Act.put, Act.eval] at hI); (try clear c0); (try clear c1); (try clear c2); (try clear c3); (try clear c4); (try clear c5); (try have c0 := hI.cell (i := 0) rfl); (try have c1 := hI.cell (i := 1) rfl); (try have c2 := hI.cell (i := 2) rfl); (try have c3 := hI.cell (i := 3) rfl); (try have c4 := hI.cell (i := 4) rfl); (try have c5 := hI.cell (i := 5) rfl); skip) | (go_at_call 37; (with_reducible refine (h3 ▸ r_IsName x.name _).mono ?_); intro e w' hr; obtain ⟨rfl, hb⟩ := hr; have hI' := hI.on hb; (try clear hb); clear hI; have hI := hI'; clear hI'; (try simp only [mm, Act.put, Act.eval] at hI); (try clear c0); (try clear c1); (try clear c2); (try clear c3); (try clear c4); (try clear c5); (try have c0 := hI.cell (i := 0) rfl); (try have c1 := hI.cell (i := 1) rfl); (try have c2 := hI.cell (i := 2) rfl); (try have c3 := hI.cell (i := 3) rfl); (try have c4 := hI.cell (i := 4) rfl); (try have c5 := hI.cell (i := 5) rfl); skip) | (go_at_call 39; (with_reducible refine (r_outside _ _ _ _).mono ?_); rintro e w1 ⟨rfl, rfl⟩) | (go_at_call_of 96 (Value.int IntKind.i64 x.slot); (with_reducible refine (h4 ▸ r_Has_I V c4 nl x.slot w' HN20.out ((hI.own (i := 1) rfl).liesB len_I rfl)).mono ?_); intro e w' hr; obtain ⟨rfl, hb⟩ := hr; have hI' := hI.on hb; (try clear hb); clear hI; have hI := hI'; clear hI'; (try simp only [mm, Act.put, Act.eval] at hI); (try clear c0); (try clear c1); (try clear c2); (try clear c3); (try clear c4); (try clear c5); (try have c0 := hI.cell (i := 0) rfl); (try have c1 := hI.cell (i := 1) rfl); (try have c2 := hI.cell (i := 2) rfl); (try have c3 := hI.cell (i := 3) rfl); (try have c4 := hI.cell (i := 4) rfl); (try have c5 := hI.cell (i := 5) rfl); skip) | fail)
                      go_returns
                      exact Ret.int H2.out.symm hI.below
              · have H2 := Lib.hid (show modE m = 0 by rw [H.out, HF.out, fromI_end hge])
                (try clear c0); (try clear c1); (try clear c2); (try clear c3); (try clear c4); (try clear c5); (try have c0 := hI.cell (i := 0) rfl); (try have c1 := hI.cell (i := 1) rfl); (try have c2 := hI.cell (i := 2) rfl); (try have c3 := hI.cell (i := 3) rfl); (try have c4 := hI.cell (i := 4) rfl); (try have c5 := hI.cell (i := 5) rfl); skip
                go_wp2_with fail
                go_returns
                exact Ret.int H2.out.symm hI.below
  · have H := Lib.hid (modE_large hl)
    have hd : 120 < m.code.length ∨ (m.code.length ≤ 120 ∧ 60 < m.data.length) ∨ (m.code.length ≤ 120 ∧ m.data.length ≤ 60 ∧ 20 < m.exports.length) ∨ (m.code.length ≤ 120 ∧ m.data.length ≤ 60 ∧ m.exports.length ≤ 20 ∧ 20 < m.imports.length) := by
      simp only [largeB, Bool.or_eq_true, decide_eq_true_eq] at hl
      omega
    clear hl
    rcases hd with h | ⟨h1, h2⟩ | ⟨h1, h2, h3⟩ | ⟨h1, h2, h3, h4⟩
    all_goals
      go_enter Tryz.func45, Tryz.ntmps45
      go_wp2_with (first | (refine listI rfl fun K hK => wpI_box _ _ rfl hI rfl fun gx w' hI' hb => hK _ _ ?_; clear hK K; (try clear hb); clear hI; have hI := hI'; clear hI'; (try simp only [mm, Act.put, Act.eval] at hI); (try clear c0); (try clear c1); (try clear c2); (try clear c3); (try clear c4); (try clear c5); (try have c0 := hI.cell (i := 0) rfl); (try have c1 := hI.cell (i := 1) rfl); (try have c2 := hI.cell (i := 2) rfl); (try have c3 := hI.cell (i := 3) rfl); (try have c4 := hI.cell (i := 4) rfl); (try have c5 := hI.cell (i := 5) rfl); skip) | (refine listI rfl fun K hK => wpI_box1 _ _ rfl hI rfl rfl fun gx w' hI' hb => hK _ _ ?_; clear hK K; (try clear hb); clear hI; have hI := hI'; clear hI'; (try simp only [mm, Act.put, Act.eval] at hI); (try clear c0); (try clear c1); (try clear c2); (try clear c3); (try clear c4); (try clear c5); (try have c0 := hI.cell (i := 0) rfl); (try have c1 := hI.cell (i := 1) rfl); (try have c2 := hI.cell (i := 2) rfl); (try have c3 := hI.cell (i := 3) rfl); (try have c4 := hI.cell (i := 4) rfl); (try have c5 := hI.cell (i := 5) rfl); skip) | fail)
      go_returns
      exact Ret.int H.out.symm hI.below
end Go.Proofs.YtbkjhdohkdeniaaGreatDoor
