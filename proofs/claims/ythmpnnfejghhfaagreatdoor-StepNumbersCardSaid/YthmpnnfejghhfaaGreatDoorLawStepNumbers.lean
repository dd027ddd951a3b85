/- The law StepNumbers: the program returns what the reference returns, for all arguments; Go's tables hold what they were laid with, which the card ties. Conditions: none. -/
import Derived.Test.YthmpnnfejghhfaaGreatDoorP50
import Derived.Test.YthmpnnfejghhfaaGreatDoorP49
set_option linter.unusedVariables false
set_option linter.unusedSimpArgs false
namespace Go.Proofs.YthmpnnfejghhfaaGreatDoor
open Go.ChangeShapes Go.WideShapes Go.ChangeAt Go.RowKit
set_option maxRecDepth 100000
theorem InvT.liesInts {T : Nat → Prop} {w0 w : World} {rs : List Res} (h : InvT T w0 rs w) {i g : Nat} {t : TypeId} {cs : Array Value} (hi : rs[i]? = some (.box g t cs)) (xs : List Int) (hx : cs = (xs.map (fun n => Value.int .i64 n)).toArray) : Lies encI 1 w (g + 1) (some ⟨g, 0, none⟩) xs := fun _ => by
  refine ⟨g, 0, rfl, Nat.lt_succ_self _, fun k y hy j hj => ?_⟩
  obtain rfl : j = 0 := by omega
  rw [h.cell hi, hx]
  simp [encI, hy]
set_option maxHeartbeats 4000000 in
theorem stepNumbers_walk (mc : Array Value) (m : Mach) (hwf : m.Wf) (w : World) (hm : MachV w w.heap.size mc m) (hE : Env w) : Calls Tryz.prog 4 #[.agg mc] w (Ret (.bool true) w) := by
  refine am189 ?_; intro HM hsz HE; clear hm hE; have hI := Inv.start w; have cF := hI.facts
  go_enter Tryz.func4, Tryz.ntmps4
  go_wp2_with (first
    | ((with_reducible refine at_box ?_); first | (refine listI rfl fun K hK => wpI_box _ _ rfl hI rfl fun gx w' hI' hb => hK _ _ ?_; clear hK K; (try clear hb); refine am92 ?_; clear hI hI'; (try clear cF); intro hI cF) | (refine listI rfl fun K hK => wpI_box1 _ _ rfl hI rfl rfl fun gx w' hI' hb => hK _ _ ?_; clear hK K; (try clear hb); refine am92 ?_; clear hI hI'; (try clear cF); intro hI cF)) | ((with_reducible refine at_load ?_); first | (refine wpList_load_box rfl 31 _ rfl (hI.box (i := 0) rfl) rfl Tryz.underlying31 rfl (by first | exact info_mach (by assumption) | (simp only [hsz1]; kernel_rfl) | (simp only [hsz2]; kernel_rfl) | (simp only [hsz]; kernel_rfl) | kernel_rfl) ?_))
    | (refine listI rfl fun K hK => wpI_sliceN _ _ _ 1 _ (.int .i64 0) #[.int .i64 1, .int .i64 2, .int .i64 3, .int .i64 4, .int .i64 5, .int .i64 6, .int .i64 7, .int .i64 22, .int .i64 21] rfl hI Tryz.underlying29 (by kernel_rfl) (by decide) (by decide) (by kernel_rfl) fun gl w' hI' hb => hK _ _ ?_; clear hK K; (try clear hb); refine am92 ?_; clear hI hI'; (try clear cF); intro hI cF)
    | (go_at_call 15; (with_reducible refine (steps_any mc m hwf _ (hI.mach HM.out) (HE.out.inv hI) _ 9 [1, 2, 3, 4, 5, 6, 7, 22, 21] rfl (by decide) ((hI.liesInts (i := 1) rfl [1, 2, 3, 4, 5, 6, 7, 22, 21] rfl).more (by have := hI.lt (i := 1) rfl rfl; omega))).mono ?_); refine am101 ?_; clear hI; (try clear cF); intro w' hI cF)
    | fail)
  go_returns
  exact Ret.bool (by simp) hI.below
theorem stepNumbers_reads (os : Os) {H : Type} (enc : TypeId × Value → H) : ∃ places, DataW.whole enc Tryz.prog ((laidWorld os).forCall (fun _ _ => 0) ⟨#[], #[.agg (machL (List.replicate 8 ⟨false, 0, Key.zero⟩) Key.zero (.slice none 0 0) (.slice none 0 0) (.slice none 0 0)).toArray], []⟩).memory Tryz.f4.params.toList Rows.stepNumbersSpec.vars false #[.agg (machL (List.replicate 8 ⟨false, 0, Key.zero⟩) Key.zero (.slice none 0 0) (.slice none 0 0) (.slice none 0 0)).toArray].toList 8 = some ([.agg [.agg [.agg [.lit (.bool false), .lit (.int .i64 0), .agg [.lit (.int .i64 0), .lit (.int .i64 0), .lit (.int .i64 0), .lit (.int .i64 0), .lit (.int .i64 0)]], .agg [.lit (.bool false), .lit (.int .i64 0), .agg [.lit (.int .i64 0), .lit (.int .i64 0), .lit (.int .i64 0), .lit (.int .i64 0), .lit (.int .i64 0)]], .agg [.lit (.bool false), .lit (.int .i64 0), .agg [.lit (.int .i64 0), .lit (.int .i64 0), .lit (.int .i64 0), .lit (.int .i64 0), .lit (.int .i64 0)]], .agg [.lit (.bool false), .lit (.int .i64 0), .agg [.lit (.int .i64 0), .lit (.int .i64 0), .lit (.int .i64 0), .lit (.int .i64 0), .lit (.int .i64 0)]], .agg [.lit (.bool false), .lit (.int .i64 0), .agg [.lit (.int .i64 0), .lit (.int .i64 0), .lit (.int .i64 0), .lit (.int .i64 0), .lit (.int .i64 0)]], .agg [.lit (.bool false), .lit (.int .i64 0), .agg [.lit (.int .i64 0), .lit (.int .i64 0), .lit (.int .i64 0), .lit (.int .i64 0), .lit (.int .i64 0)]], .agg [.lit (.bool false), .lit (.int .i64 0), .agg [.lit (.int .i64 0), .lit (.int .i64 0), .lit (.int .i64 0), .lit (.int .i64 0), .lit (.int .i64 0)]], .agg [.lit (.bool false), .lit (.int .i64 0), .agg [.lit (.int .i64 0), .lit (.int .i64 0), .lit (.int .i64 0), .lit (.int .i64 0), .lit (.int .i64 0)]]], .agg [.lit (.int .i64 0), .lit (.int .i64 0), .lit (.int .i64 0), .lit (.int .i64 0), .lit (.int .i64 0)], .nil, .nil, .nil]], [], places) :=
  ⟨[], by kernel_rfl⟩
theorem stepNumbers_open {H : Type} (enc : TypeId × Value → H) (W : World) (base : Nat) (args : Array Value) (ds : List (DataW H)) (ps : List MemPlace)
    (hval : ∀ (j : Nat) t v, Tryz.f4.params[j]? = some t → args[j]? = some v → Value.okWide Tryz.prog W .any base t v)
    (hA : DataW.TrodAll enc Tryz.prog W 0 (fun _ => true) true Tryz.f4.params.toList args.toList ds ps) (hlt : ∀ x ∈ ps, x.block < W.heap.size)
    (hE : Env W) :
    Calls Tryz.prog 4 args W fun e W' => e = .returned (.bool true) ∧ Below W.heap.size W W' := by
  rw [Tryz.params4] at hA hval
  obtain ⟨v0, d0, rfl, rfl, h0⟩ := trodAll_one hA
  obtain ⟨mc, m, rfl, hwf, hm⟩ := open_mach (hval 0 _ v0 rfl rfl) h0
  exact (stepNumbers_walk mc m hwf W hm hE).mono fun e W' hr => hr
set_option maxRecDepth 100000 in
theorem stepNumbers_lifted (os : Os) (started : os.Started) (H : Type) (enc : TypeId × Value → H) (F : Stop.Interp) :
    ReturnsInHanded {} Tryz.checked os 4 .any ((OpenSpec.ofChange Rows.stepNumbersSpec).preRow enc Tryz.prog Tryz.f4 [] false laidAll) (((OpenSpec.ofChange Rows.stepNumbersSpec).at F).post enc Tryz.prog Tryz.f4 false true false false) := by
  obtain ⟨places, hx⟩ := stepNumbers_reads os enc
  exact liftedL (C := Tryz.checked) (s := Rows.stepNumbersSpec) own started (by kernel_rfl) Tryz.func4
    (witness_row_atRef (enc := enc) (C := Tryz.checked) false (laidWorld os) #[.agg (machL (List.replicate 8 ⟨false, 0, Key.zero⟩) Key.zero (.slice none 0 0) (.slice none 0 0) (.slice none 0 0)).toArray] rfl (by kernel_rfl) (by kernel_rfl) (by kernel_rfl)
      (OpenSpec.preRow_of_cond 8 hx (by kernel_rfl) (fun k hk => by cases hk) (by kernel_rfl) (laid_met os _)))
    (by kernel_rfl) (by kernel_rfl) rfl rfl Tryz.underlying4
    (fun ds h => by match ds, h with | [_], _ => exact ⟨rfl, rfl, rfl⟩)
    (fun W base args ds ps hval hA hlt hL hSh => stepNumbers_open enc W base args ds ps hval hA hlt (env_of hL hSh))
theorem stepNumbers_said : Rows.StepNumbersSaid :=
  OpenClaim.holds_of_cond 4 Tryz.f4 rfl rfl rfl rfl rfl rfl rfl ⟨rfl, rfl, rfl, rfl, rfl⟩ rfl rfl rfl rfl rfl (by kernel_rfl) Tryz.func4 (by kernel_rfl)
    (of_decide_eq_true (by kernel_rfl)) (by unfold Func.isWrapper; first | (rw [if_pos (by decide +kernel)]; kernel_rfl) | (rw [if_neg (by decide +kernel)]; exact ⟨rfl, rfl⟩))
    (fun os started H enc _ F => by rw [OpenClaim.pre_eq_preRow]; exact stepNumbers_lifted os started H enc F)
theorem stepNumbers_plain (f : FuncId) (fn : Func) (hf : Tryz.pinned.checked.prog.funcNamed "custodian/custodianlaw.StepNumbers" = some f) (hfn : Tryz.pinned.checked.prog.funcs[f]? = some fn) :
    true = Tryz.pinned.checked.prog.looks [] ∧ ∀ (j : Nat) t, fn.params[j]? = some t → Tryz.pinned.checked.prog.wantsStandIn t = false := by
  obtain rfl : f = 4 := Option.some.inj ((show Tryz.prog.funcNamed "custodian/custodianlaw.StepNumbers" = some 4 by kernel_rfl).symm.trans hf) |>.symm
  obtain rfl : fn = Tryz.f4 := (Option.some.inj (Tryz.func4.symm.trans hfn)).symm
  refine ⟨by kernel_rfl, fun j t ht => ?_⟩
  rw [Tryz.params4] at ht
  exact az52
theorem stepNumbers_holds : Rows.StepNumbersCardSaid :=
  Claim7.holds_tied_plain_at .later [] _ _ _ _ stepNumbers_said (fun _ h => by cases h) (by kernel_rfl) (fun _ h => by cases h) stepNumbers_row_tie rfl ⟨rfl, rfl⟩ (by kernel_rfl) rfl stepNumbers_plain (by kernel_rfl)
#print axioms stepNumbers_holds
end Go.Proofs.YthmpnnfejghhfaaGreatDoor
