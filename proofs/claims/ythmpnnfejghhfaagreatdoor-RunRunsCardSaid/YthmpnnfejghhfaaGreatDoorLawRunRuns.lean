/- The law RunRuns: the program returns what the reference returns, for all arguments; Go's tables hold what they were laid with, which the card ties. Conditions: none. -/
import Derived.Test.YthmpnnfejghhfaaGreatDoorQ02
import Derived.Test.YthmpnnfejghhfaaGreatDoorP49
namespace Go.Proofs.YthmpnnfejghhfaaGreatDoor
open Go.ChangeShapes Go.WideShapes Go.ChangeAt Go.RowKit
set_option linter.unusedVariables false
set_option linter.unusedSimpArgs false
set_option maxRecDepth 100000
set_option maxHeartbeats 4000000 in
theorem runRuns_walk (mc : Array Value) (m : Mach) (hwf : m.Wf) (n : Int) (w : World) (hm : MachV w w.heap.size mc m) (hE : Env w) : Calls Tryz.prog 8 #[.agg mc, .int .i64 n] w (Ret (.bool true) w) := by
  have HM := Lib.hid hm
  have hsz := hm.size
  have HE := Lib.hid hE
  have h0 := Lib.hid (fun W hM hE => (c_Run mc m n W hM hE).mono fun _ _ h => RetMR.mach h)
  have h2 := Lib.hid (fun W hM hE => r_Run mc m hwf n W hM hE)
  have hl := Lib.hid (runF_lens m n)
  clear hwf hm hE
  generalize runF m n = r at h0 h2 hl
  obtain ⟨M, xs, er, ran⟩ := r
  have hI := Inv.start w
  go_enter Tryz.func8, Tryz.ntmps8
  go_wp2_with (first
    | ((with_reducible refine at_box ?_); first | (refine listI rfl fun K hK => wpI_box _ _ rfl hI rfl fun gx w' hI' hb => hK _ _ ?_; clear hK K; (try replace HM1 := Lib.hid (HM1.out.grow hb)); (try replace HM2 := Lib.hid (HM2.out.grow hb)); (try clear hb); replace hI := hI'; clear hI'; replace cF := hI.facts; (try simp only [mm, Act.put, Act.eval] at hI cF)) | (refine listI rfl fun K hK => wpI_box1 _ _ rfl hI rfl rfl fun gx w' hI' hb => hK _ _ ?_; clear hK K; (try replace HM1 := Lib.hid (HM1.out.grow hb)); (try replace HM2 := Lib.hid (HM2.out.grow hb)); (try clear hb); replace hI := hI'; clear hI'; replace cF := hI.facts; (try simp only [mm, Act.put, Act.eval] at hI cF))) | ((with_reducible refine at_load ?_); first | (refine wpList_load_box rfl 31 _ rfl (hI.box (i := 0) rfl) rfl Tryz.underlying31 rfl (by first | exact info_mach (by assumption) | (simp only [hsz1]; kernel_rfl) | (simp only [hsz2]; kernel_rfl) | (simp only [hsz]; kernel_rfl) | kernel_rfl) ?_)) | ((with_reducible refine at_load ?_); first | (refine wpList_load_box rfl 31 _ rfl (hI.box (i := 1) rfl) rfl Tryz.underlying31 rfl (by first | exact info_mach (by assumption) | (simp only [hsz1]; kernel_rfl) | (simp only [hsz2]; kernel_rfl) | (simp only [hsz]; kernel_rfl) | kernel_rfl) ?_)) | ((with_reducible refine at_load ?_); first | (refine wpList_load_box rfl 31 _ rfl (hI.box (i := 2) rfl) rfl Tryz.underlying31 rfl (by first | exact info_mach (by assumption) | (simp only [hsz1]; kernel_rfl) | (simp only [hsz2]; kernel_rfl) | (simp only [hsz]; kernel_rfl) | kernel_rfl) ?_)) | (go_at_call 16; (with_reducible refine (h0.out _ (hI.mach HM.out) (HE.out.inv hI)).mono ?_); rintro e w' ⟨mc1, rfl, hm1, hb⟩; have hI' := hI.on hb; have hsz1 := hm1.size; (try replace HM1 := Lib.hid (HM1.out.grow hb)); (try replace HM2 := Lib.hid (HM2.out.grow hb)); (try clear hb); replace hI := hI'; clear hI'; replace cF := hI.facts; (try simp only [mm, Act.put, Act.eval] at hI cF); have HM1 := Lib.hid hm1; have HO1 := Lib.hid hm1.one; clear hm1)
    | (go_at_call 17; refine (h2.out _ (hI.mach HM.out) (HE.out.inv hI)).mono ?_; rintro e w' ⟨mc2, A2, cp2, rfl, hm2, hL2, hb⟩; have hI' := hI.on hb; have hsz2 := hm2.size; (try replace HM1 := Lib.hid (HM1.out.grow hb)); (try replace HM2 := Lib.hid (HM2.out.grow hb)); (try clear hb); replace hI := hI'; clear hI'; replace cF := hI.facts; (try simp only [mm, Act.put, Act.eval] at hI cF); have HM2 := Lib.hid hm2; have HO2 := Lib.hid hm2.one; clear hm2 hL2)
    | (go_at_call 14; (with_reducible refine (r_MachineSame mc1 mc2 M _ HM1.out HM2.out hl.out).mono ?_); intro e w' hr; obtain ⟨rfl, hb⟩ := hr; have hI' := hI.on hb; (try replace HM1 := Lib.hid (HM1.out.grow hb)); (try replace HM2 := Lib.hid (HM2.out.grow hb)); (try clear hb); replace hI := hI'; clear hI'; replace cF := hI.facts; (try simp only [mm, Act.put, Act.eval] at hI cF)) | ((with_reducible refine at_alloc ?_); first | (refine lv 31 hI Tryz.zeroValue31 fun gx w' hI' hb => ?_; (try replace HM1 := Lib.hid (HM1.out.grow hb)); (try replace HM2 := Lib.hid (HM2.out.grow hb)); (try clear hb); replace hI := hI'; clear hI'; replace cF := hI.facts; (try simp only [mm, Act.put, Act.eval] at hI cF))) | fail)
  go_returns
  exact Ret.bool (by simp) hI.below
theorem runRuns_reads (os : Os) {H : Type} (enc : TypeId × Value → H) : ∃ places, DataW.whole enc Tryz.prog ((laidWorld os).forCall (fun _ _ => 0) ⟨#[], #[.agg (machL (List.replicate 8 ⟨false, 0, Key.zero⟩) Key.zero (.slice none 0 0) (.slice none 0 0) (.slice none 0 0)).toArray, .int .i64 0], []⟩).memory Tryz.f8.params.toList Rows.runRunsSpec.vars false #[.agg (machL (List.replicate 8 ⟨false, 0, Key.zero⟩) Key.zero (.slice none 0 0) (.slice none 0 0) (.slice none 0 0)).toArray, .int .i64 0].toList 8 = some ([.agg [.agg [.agg [.lit (.bool false), .lit (.int .i64 0), .agg [.lit (.int .i64 0), .lit (.int .i64 0), .lit (.int .i64 0), .lit (.int .i64 0), .lit (.int .i64 0)]], .agg [.lit (.bool false), .lit (.int .i64 0), .agg [.lit (.int .i64 0), .lit (.int .i64 0), .lit (.int .i64 0), .lit (.int .i64 0), .lit (.int .i64 0)]], .agg [.lit (.bool false), .lit (.int .i64 0), .agg [.lit (.int .i64 0), .lit (.int .i64 0), .lit (.int .i64 0), .lit (.int .i64 0), .lit (.int .i64 0)]], .agg [.lit (.bool false), .lit (.int .i64 0), .agg [.lit (.int .i64 0), .lit (.int .i64 0), .lit (.int .i64 0), .lit (.int .i64 0), .lit (.int .i64 0)]], .agg [.lit (.bool false), .lit (.int .i64 0), .agg [.lit (.int .i64 0), .lit (.int .i64 0), .lit (.int .i64 0), .lit (.int .i64 0), .lit (.int .i64 0)]], .agg [.lit (.bool false), .lit (.int .i64 0), .agg [.lit (.int .i64 0), .lit (.int .i64 0), .lit (.int .i64 0), .lit (.int .i64 0), .lit (.int .i64 0)]], .agg [.lit (.bool false), .lit (.int .i64 0), .agg [.lit (.int .i64 0), .lit (.int .i64 0), .lit (.int .i64 0), .lit (.int .i64 0), .lit (.int .i64 0)]], .agg [.lit (.bool false), .lit (.int .i64 0), .agg [.lit (.int .i64 0), .lit (.int .i64 0), .lit (.int .i64 0), .lit (.int .i64 0), .lit (.int .i64 0)]]], .agg [.lit (.int .i64 0), .lit (.int .i64 0), .lit (.int .i64 0), .lit (.int .i64 0), .lit (.int .i64 0)], .nil, .nil, .nil], .lit (.int .i64 0)], [], places) :=
  ⟨[], by kernel_rfl⟩
theorem runRuns_open {H : Type} (enc : TypeId × Value → H) (W : World) (base : Nat) (args : Array Value) (ds : List (DataW H)) (ps : List MemPlace)
    (hval : ∀ (j : Nat) t v, Tryz.f8.params[j]? = some t → args[j]? = some v → Value.okWide Tryz.prog W .any base t v)
    (hA : DataW.TrodAll enc Tryz.prog W 0 (fun _ => true) true Tryz.f8.params.toList args.toList ds ps) (hlt : ∀ x ∈ ps, x.block < W.heap.size)
    (hE : Env W) :
    Calls Tryz.prog 8 args W fun e W' => e = .returned (.bool true) ∧ Below W.heap.size W W' := by
  rw [Tryz.params8] at hA hval
  obtain ⟨v0, v1, d0, d1, p0, p1, hargs, rfl, rfl, h0, h1⟩ := trodAll_two hA
  subst hargs
  obtain ⟨mc0, m0, rfl, hwf0, hm0⟩ := open_mach (hval 0 _ v0 rfl rfl) h0
  obtain ⟨n1, rfl, hn11, hn21, hn31⟩ := open_int Tryz.underlying3 (hval 1 _ v1 rfl rfl) h1
  exact (runRuns_walk mc0 m0 hwf0 n1 W hm0 hE).mono fun e W' hr => hr
set_option maxRecDepth 100000 in
theorem runRuns_lifted (os : Os) (started : os.Started) (H : Type) (enc : TypeId × Value → H) (F : Stop.Interp) :
    ReturnsInHanded {} Tryz.checked os 8 .any ((OpenSpec.ofChange Rows.runRunsSpec).preRow enc Tryz.prog Tryz.f8 [] false laidAll) (((OpenSpec.ofChange Rows.runRunsSpec).at F).post enc Tryz.prog Tryz.f8 false true false false) := by
  obtain ⟨places, hx⟩ := runRuns_reads os enc
  exact liftedL (C := Tryz.checked) (s := Rows.runRunsSpec) own started (by kernel_rfl) Tryz.func8
    (witness_row_atRef (enc := enc) (C := Tryz.checked) false (laidWorld os) #[.agg (machL (List.replicate 8 ⟨false, 0, Key.zero⟩) Key.zero (.slice none 0 0) (.slice none 0 0) (.slice none 0 0)).toArray, .int .i64 0] rfl (by kernel_rfl) (by kernel_rfl) (by kernel_rfl)
      (OpenSpec.preRow_of_cond 8 hx (by kernel_rfl) (fun k hk => by cases hk) (by kernel_rfl) (laid_met os _)))
    (by kernel_rfl) (by kernel_rfl) rfl rfl Tryz.underlying4
    (fun ds h => by match ds, h with | [_, _], _ => exact ⟨rfl, rfl, rfl⟩)
    (fun W base args ds ps hval hA hlt hL hSh => runRuns_open enc W base args ds ps hval hA hlt (env_of hL hSh))
theorem runRuns_said : Rows.RunRunsSaid :=
  OpenClaim.holds_of_cond 8 Tryz.f8 rfl rfl rfl rfl rfl rfl rfl ⟨rfl, rfl, rfl, rfl, rfl⟩ rfl rfl rfl rfl rfl (by kernel_rfl) Tryz.func8 (by kernel_rfl)
    (of_decide_eq_true (by kernel_rfl)) (by unfold Func.isWrapper; first | (rw [if_pos (by decide +kernel)]; kernel_rfl) | (rw [if_neg (by decide +kernel)]; exact ⟨rfl, rfl⟩))
    (fun os started H enc _ F => by rw [OpenClaim.pre_eq_preRow]; exact runRuns_lifted os started H enc F)
theorem runRuns_plain (f : FuncId) (fn : Func) (hf : Tryz.pinned.checked.prog.funcNamed "custodian/custodianlaw.RunRuns" = some f) (hfn : Tryz.pinned.checked.prog.funcs[f]? = some fn) :
    true = Tryz.pinned.checked.prog.looks [] ∧ ∀ (j : Nat) t, fn.params[j]? = some t → Tryz.pinned.checked.prog.wantsStandIn t = false := by
  obtain rfl : f = 8 := Option.some.inj ((show Tryz.prog.funcNamed "custodian/custodianlaw.RunRuns" = some 8 by kernel_rfl).symm.trans hf) |>.symm
  obtain rfl : fn = Tryz.f8 := (Option.some.inj (Tryz.func8.symm.trans hfn)).symm
  refine ⟨by kernel_rfl, fun j t ht => ?_⟩
  rw [Tryz.params8] at ht
  have h := Array.mem_of_getElem? ht
  simp only [List.mem_toArray, List.mem_cons, List.not_mem_nil, or_false] at h
  rcases h with h | h <;> exact (show Tryz.pinned.checked.prog.wantsStandIn t = false by rw [h]; kernel_rfl)
theorem runRuns_holds : Rows.RunRunsCardSaid :=
  Claim7.holds_tied_plain_at .later [] _ _ _ _ runRuns_said (fun _ h => by cases h) (by kernel_rfl) (fun _ h => by cases h) runRuns_row_tie rfl ⟨rfl, rfl⟩ (by kernel_rfl) rfl runRuns_plain (by kernel_rfl)
#print axioms runRuns_holds
end Go.Proofs.YthmpnnfejghhfaaGreatDoor
