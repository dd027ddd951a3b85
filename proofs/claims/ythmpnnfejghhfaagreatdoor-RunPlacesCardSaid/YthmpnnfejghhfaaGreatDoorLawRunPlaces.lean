/- The law RunPlaces: the program returns what the reference returns, for all arguments; Go's tables hold what they were laid with, which the card ties. Conditions: none. -/
import Derived.Test.YthmpnnfejghhfaaGreatDoorQ02
import Derived.Test.YthmpnnfejghhfaaGreatDoorP49
namespace Go.Proofs.YthmpnnfejghhfaaGreatDoor
open Go.ChangeShapes Go.WideShapes Go.ChangeAt Go.RowKit
set_option linter.unusedVariables false
set_option linter.unusedSimpArgs false
set_option maxRecDepth 100000
set_option maxHeartbeats 4000000 in
theorem runPlaces_walk (mc : Array Value) (m : Mach) (hwf : m.Wf) (n : Int) (w : World) (hm : MachV w w.heap.size mc m) (hE : Env w) : Calls Tryz.prog 9 #[.agg mc, .int .i64 n] w (Ret (.bool true) w) := by
  have HM := Lib.hid hm
  have hsz := hm.size
  have HE := Lib.hid hE
  have h0 := Lib.hid (fun W hM hE => c_Places mc m n W hM hE)
  have e1 : runF m (-1) = (Mach.zero, [], 1, false) := by unfold runF; rw [if_pos (by decide)]; rfl
  have h1 := Lib.hid (fun W hM hE => (show RetInts W (runF m (-1)).2.1 (if (runF m (-1)).2.2.2 = true then 0 else (runF m (-1)).2.2.1) = RetInts W [] 1 by rw [e1]; rfl) ▸ c_Places mc m (-1) W hM hE)
  have h2 := Lib.hid (fun W hM hE => r_Run mc m hwf n W hM hE)
  have hl := runF_places m n
  clear hwf hm hE e1
  generalize runF m n = r at h0 h2 hl
  obtain ⟨M, xs, er, ran⟩ := r
  dsimp only at h0 h2 hl
  have hx : xs.length < 9223372036854775807 := by omega
  cases ran
  all_goals
    have hI := Inv.start w
    go_enter Tryz.func9, Tryz.ntmps9
    go_wp2_with (first
      | ((with_reducible refine at_box ?_); first | (refine listI rfl fun K hK => wpI_box _ _ rfl hI rfl fun gx w' hI' hb => hK _ _ ?_; clear hK K; (try replace HM1 := Lib.hid (HM1.out.grow hb)); (try replace HM2 := Lib.hid (HM2.out.grow hb)); (try clear hb); replace hI := hI'; clear hI'; replace cF := hI.facts; (try simp only [mm, Act.put, Act.eval] at hI cF)) | (refine listI rfl fun K hK => wpI_box1 _ _ rfl hI rfl rfl fun gx w' hI' hb => hK _ _ ?_; clear hK K; (try replace HM1 := Lib.hid (HM1.out.grow hb)); (try replace HM2 := Lib.hid (HM2.out.grow hb)); (try clear hb); replace hI := hI'; clear hI'; replace cF := hI.facts; (try simp only [mm, Act.put, Act.eval] at hI cF))) | ((with_reducible refine at_load ?_); first | (refine wpList_load_box rfl 31 _ rfl (hI.box (i := 0) rfl) rfl Tryz.underlying31 rfl (by first | exact info_mach (by assumption) | (simp only [hsz1]; kernel_rfl) | (simp only [hsz2]; kernel_rfl) | (simp only [hsz]; kernel_rfl) | kernel_rfl) ?_))
      | (go_at_call 17; refine (h2.out _ (hI.mach HM.out) (HE.out.inv hI)).mono ?_; rintro e w' ⟨mc2, A2, cp2, rfl, hm2, hL2, hb⟩; have hI' := hI.on hb; (try replace HM1 := Lib.hid (HM1.out.grow hb)); (try replace HM2 := Lib.hid (HM2.out.grow hb)); (try clear hb); replace hI := hI'; clear hI'; replace cF := hI.facts; (try simp only [mm, Act.put, Act.eval] at hI cF); have HM2 := Lib.hid hL2; have hsz2 := hm2.size; have HO2 := Lib.hid hm2.one; clear hm2 hL2)
      | (go_at_call 18; refine (h0.out _ (hI.mach HM.out) (HE.out.inv hI)).mono ?_; rintro e w' ⟨A1, cp1, rfl, hL1, hb⟩; have hI' := hI.on hb; (try replace HM1 := Lib.hid (HM1.out.grow hb)); (try replace HM2 := Lib.hid (HM2.out.grow hb)); (try clear hb); replace hI := hI'; clear hI'; replace cF := hI.facts; (try simp only [mm, Act.put, Act.eval] at hI cF); have HM1 := Lib.hid hL1; clear hL1 h0)
      | (go_at_call 18; refine (h1.out _ (hI.mach HM.out) (HE.out.inv hI)).mono ?_; rintro e w' ⟨A3, cp3, rfl, hL3, hb⟩; have hI' := hI.on hb; (try replace HM1 := Lib.hid (HM1.out.grow hb)); (try replace HM2 := Lib.hid (HM2.out.grow hb)); (try clear hb); replace hI := hI'; clear hI'; replace cF := hI.facts; (try simp only [mm, Act.put, Act.eval] at hI cF); clear hL3)
      | (go_at_call 19; (with_reducible refine (r_Eq_I A1 A2 cp1 cp2 xs xs _ hx HM1.out HM2.out).mono ?_); intro e w' hr; obtain ⟨rfl, hb⟩ := hr; have hI' := hI.on hb; (try replace HM1 := Lib.hid (HM1.out.grow hb)); (try replace HM2 := Lib.hid (HM2.out.grow hb)); (try clear hb); replace hI := hI'; clear hI'; replace cF := hI.facts; (try simp only [mm, Act.put, Act.eval] at hI cF))
      | ((with_reducible refine at_alloc ?_); first | (refine lv 31 hI Tryz.zeroValue31 fun gx w' hI' hb => ?_; (try replace HM1 := Lib.hid (HM1.out.grow hb)); (try replace HM2 := Lib.hid (HM2.out.grow hb)); (try clear hb); replace hI := hI'; clear hI'; replace cF := hI.facts; (try simp only [mm, Act.put, Act.eval] at hI cF))) | fail)
    go_returns
    exact Ret.bool (by simp) hI.below
theorem runPlaces_reads (os : Os) {H : Type} (enc : TypeId × Value → H) : ∃ places, DataW.whole enc Tryz.prog ((laidWorld os).forCall (fun _ _ => 0) ⟨#[], #[.agg (machL (List.replicate 8 ⟨false, 0, Key.zero⟩) Key.zero (.slice none 0 0) (.slice none 0 0) (.slice none 0 0)).toArray, .int .i64 0], []⟩).memory Tryz.f9.params.toList Rows.runPlacesSpec.vars false #[.agg (machL (List.replicate 8 ⟨false, 0, Key.zero⟩) Key.zero (.slice none 0 0) (.slice none 0 0) (.slice none 0 0)).toArray, .int .i64 0].toList 8 = some ([.agg [.agg [.agg [.lit (.bool false), .lit (.int .i64 0), .agg [.lit (.int .i64 0), .lit (.int .i64 0), .lit (.int .i64 0), .lit (.int .i64 0), .lit (.int .i64 0)]], .agg [.lit (.bool false), .lit (.int .i64 0), .agg [.lit (.int .i64 0), .lit (.int .i64 0), .lit (.int .i64 0), .lit (.int .i64 0), .lit (.int .i64 0)]], .agg [.lit (.bool false), .lit (.int .i64 0), .agg [.lit (.int .i64 0), .lit (.int .i64 0), .lit (.int .i64 0), .lit (.int .i64 0), .lit (.int .i64 0)]], .agg [.lit (.bool false), .lit (.int .i64 0), .agg [.lit (.int .i64 0), .lit (.int .i64 0), .lit (.int .i64 0), .lit (.int .i64 0), .lit (.int .i64 0)]], .agg [.lit (.bool false), .lit (.int .i64 0), .agg [.lit (.int .i64 0), .lit (.int .i64 0), .lit (.int .i64 0), .lit (.int .i64 0), .lit (.int .i64 0)]], .agg [.lit (.bool false), .lit (.int .i64 0), .agg [.lit (.int .i64 0), .lit (.int .i64 0), .lit (.int .i64 0), .lit (.int .i64 0), .lit (.int .i64 0)]], .agg [.lit (.bool false), .lit (.int .i64 0), .agg [.lit (.int .i64 0), .lit (.int .i64 0), .lit (.int .i64 0), .lit (.int .i64 0), .lit (.int .i64 0)]], .agg [.lit (.bool false), .lit (.int .i64 0), .agg [.lit (.int .i64 0), .lit (.int .i64 0), .lit (.int .i64 0), .lit (.int .i64 0), .lit (.int .i64 0)]]], .agg [.lit (.int .i64 0), .lit (.int .i64 0), .lit (.int .i64 0), .lit (.int .i64 0), .lit (.int .i64 0)], .nil, .nil, .nil], .lit (.int .i64 0)], [], places) :=
  ⟨[], by kernel_rfl⟩
theorem runPlaces_open {H : Type} (enc : TypeId × Value → H) (W : World) (base : Nat) (args : Array Value) (ds : List (DataW H)) (ps : List MemPlace)
    (hval : ∀ (j : Nat) t v, Tryz.f9.params[j]? = some t → args[j]? = some v → Value.okWide Tryz.prog W .any base t v)
    (hA : DataW.TrodAll enc Tryz.prog W 0 (fun _ => true) true Tryz.f9.params.toList args.toList ds ps) (hlt : ∀ x ∈ ps, x.block < W.heap.size)
    (hE : Env W) :
    Calls Tryz.prog 9 args W fun e W' => e = .returned (.bool true) ∧ Below W.heap.size W W' := by
  rw [Tryz.params9] at hA hval
  obtain ⟨v0, v1, d0, d1, p0, p1, hargs, rfl, rfl, h0, h1⟩ := trodAll_two hA
  subst hargs
  obtain ⟨mc0, m0, rfl, hwf0, hm0⟩ := open_mach (hval 0 _ v0 rfl rfl) h0
  obtain ⟨n1, rfl, hn11, hn21, hn31⟩ := open_int Tryz.underlying3 (hval 1 _ v1 rfl rfl) h1
  exact (runPlaces_walk mc0 m0 hwf0 n1 W hm0 hE).mono fun e W' hr => hr
set_option maxRecDepth 100000 in
theorem runPlaces_lifted (os : Os) (started : os.Started) (H : Type) (enc : TypeId × Value → H) (F : Stop.Interp) :
    ReturnsInHanded {} Tryz.checked os 9 .any ((OpenSpec.ofChange Rows.runPlacesSpec).preRow enc Tryz.prog Tryz.f9 [] false laidAll) (((OpenSpec.ofChange Rows.runPlacesSpec).at F).post enc Tryz.prog Tryz.f9 false true false false) := by
  obtain ⟨places, hx⟩ := runPlaces_reads os enc
  exact liftedL (C := Tryz.checked) (s := Rows.runPlacesSpec) own started (by kernel_rfl) Tryz.func9
    (witness_row_atRef (enc := enc) (C := Tryz.checked) false (laidWorld os) #[.agg (machL (List.replicate 8 ⟨false, 0, Key.zero⟩) Key.zero (.slice none 0 0) (.slice none 0 0) (.slice none 0 0)).toArray, .int .i64 0] rfl (by kernel_rfl) (by kernel_rfl) (by kernel_rfl)
      (OpenSpec.preRow_of_cond 8 hx (by kernel_rfl) (fun k hk => by cases hk) (by kernel_rfl) (laid_met os _)))
    (by kernel_rfl) (by kernel_rfl) rfl rfl Tryz.underlying4
    (fun ds h => by match ds, h with | [_, _], _ => exact ⟨rfl, rfl, rfl⟩)
    (fun W base args ds ps hval hA hlt hL hSh => runPlaces_open enc W base args ds ps hval hA hlt (env_of hL hSh))
theorem runPlaces_said : Rows.RunPlacesSaid :=
  OpenClaim.holds_of_cond 9 Tryz.f9 rfl rfl rfl rfl rfl rfl rfl ⟨rfl, rfl, rfl, rfl, rfl⟩ rfl rfl rfl rfl rfl (by kernel_rfl) Tryz.func9 (by kernel_rfl)
    (of_decide_eq_true (by kernel_rfl)) (by unfold Func.isWrapper; first | (rw [if_pos (by decide +kernel)]; kernel_rfl) | (rw [if_neg (by decide +kernel)]; exact ⟨rfl, rfl⟩))
    (fun os started H enc _ F => by rw [OpenClaim.pre_eq_preRow]; exact runPlaces_lifted os started H enc F)
theorem runPlaces_plain (f : FuncId) (fn : Func) (hf : Tryz.pinned.checked.prog.funcNamed "custodian/custodianlaw.RunPlaces" = some f) (hfn : Tryz.pinned.checked.prog.funcs[f]? = some fn) :
    true = Tryz.pinned.checked.prog.looks [] ∧ ∀ (j : Nat) t, fn.params[j]? = some t → Tryz.pinned.checked.prog.wantsStandIn t = false := by
  obtain rfl : f = 9 := Option.some.inj ((show Tryz.prog.funcNamed "custodian/custodianlaw.RunPlaces" = some 9 by kernel_rfl).symm.trans hf) |>.symm
  obtain rfl : fn = Tryz.f9 := (Option.some.inj (Tryz.func9.symm.trans hfn)).symm
  refine ⟨by kernel_rfl, fun j t ht => ?_⟩
  rw [Tryz.params9] at ht
  have h := Array.mem_of_getElem? ht
  simp only [List.mem_toArray, List.mem_cons, List.not_mem_nil, or_false] at h
  rcases h with h | h <;> exact (show Tryz.pinned.checked.prog.wantsStandIn t = false by rw [h]; kernel_rfl)
theorem runPlaces_holds : Rows.RunPlacesCardSaid :=
  Claim7.holds_tied_plain_at .later [] _ _ _ _ runPlaces_said (fun _ h => by cases h) (by kernel_rfl) (fun _ h => by cases h) runPlaces_row_tie rfl ⟨rfl, rfl⟩ (by kernel_rfl) rfl runPlaces_plain (by kernel_rfl)
#print axioms runPlaces_holds
end Go.Proofs.YthmpnnfejghhfaaGreatDoor
