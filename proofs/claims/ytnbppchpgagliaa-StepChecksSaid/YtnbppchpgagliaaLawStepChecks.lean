/- The law StepChecks: Check of a machine returns what the reference returns, for all arguments. Conditions: none. -/
import Derived.Test.YtnbppchpgagliaaStepCkR
import Derived.Test.YtnbppchpgagliaaOpenM
import Derived.Test.YtnbppchpgagliaaQTail
import Derived.Test.YtnbppchpgagliaaLaw

namespace Go.Proofs.Ytnbppchpgagliaa
open Go.ChangeShapes Go.WideShapes Go.ChangeAt Go.RowKit
set_option linter.unusedVariables false
set_option linter.unusedSimpArgs false
set_option maxRecDepth 100000

theorem c_step_Check_401 (mc : Array Value) (w : World) (h : mc = (machL (List.replicate 8 ⟨false, 0, Key.zero⟩) ⟨0, 0, 401, 0, 0⟩ (.slice none 0 0) (.slice none 0 0) (.slice none 0 0)).toArray) : Calls Try.prog 21 #[.agg mc] w (Ret (.int .i64 1) w) := by
  subst h
  exact c_step_Check _ ⟨List.replicate 8 ⟨false, 0, Key.zero⟩, ⟨0, 0, 401, 0, 0⟩, [], [], []⟩ w ⟨⟨none, none, none, 0, 0, 0, rfl, by decide, by decide, by decide, by decide, by decide, by decide, Lies.nil_, Lies.nil_, Lies.nil_⟩, rfl⟩
set_option maxHeartbeats 1000000 in
theorem stepChecks_walk (mc : Array Value) (m : Mach) (w : World) (hwf : m.Wf) (hm : MachV w w.heap.size mc m) :
    Calls Try.prog 5 #[.agg mc] w (Ret (.bool true) w) := by
  have HW := Lib.hid hwf
  have HM := Lib.hid hm
  have hsz := hm.size
  clear hwf hm
  go_enter Try.func5, Try.ntmps5
  go_wp2
  (refine wp_region_kept_tail 6 (w0 := w) (bs := [mc]) (by kernel_rfl) (by kernel_rfl) (Kept.mk1 (by (repeat' (first | (with_reducible exact Below.refl _ _) | (with_reducible assumption) | (with_reducible refine Below.alloc ?_ ?_ _) | (with_reducible refine Below.drew ?_) | (with_reducible refine Below.setCell ?_ ?_ _) | (refine Below.trans ?_ (Below.mono (by with_reducible assumption) ?_)) | go_size))) (by go_size) (fun o => by simp [go_sem, *]) (fun o => by simp [go_sem, *])) ?_; simp only [List.take_succ_cons, List.take_zero, List.drop_succ_cons, List.drop_zero]; (repeat (first | go_big_quiet_skip | (go_big_quiet_want; first | (refine quiet_load_kept _ _ rfl 0 rfl (by rfl) (by kernel_rfl) (by with_reducible assumption) (by kernel_rfl) ?_; (simp only [Act.put, Act.eval, Array.getD_eq_getD_getElem?, List.getElem?_toArray, List.getElem?_cons_zero, List.getElem?_cons_succ, Option.getD_some, List.setIfInBounds_toArray, List.set_cons_zero, List.set_cons_succ]); go_big_quiet_on) | (refine BigFrame.quiet_move _ rfl ?_; (simp only [Act.put, Act.eval, Array.getD_eq_getD_getElem?, List.getElem?_toArray, List.getElem?_cons_zero, List.getElem?_cons_succ, Option.getD_some, List.setIfInBounds_toArray, List.set_cons_zero, List.set_cons_succ]); go_big_quiet_on) | (refine BigFrame.quiet_assign _ rfl ?_; (simp only [Act.put, Act.eval, Array.getD_eq_getD_getElem?, List.getElem?_toArray, List.getElem?_cons_zero, List.getElem?_cons_succ, Option.getD_some, List.setIfInBounds_toArray, List.set_cons_zero, List.set_cons_succ]); go_big_quiet_on) | (apply quiet_call; (focus (intro W; go_simp; constructor <;> with_reducible rfl)); (focus (intro W hW; first | (go_at_call 21; (with_reducible refine (c_step_Check mc m _ ((HM.out.below hW.below).more hW.below.size)).mono ?_); intro e w1 hr; exact hW.ret hr) | (go_at_call 22; (with_reducible refine (r_StepCheck mc m HW.out _ ((HM.out.below hW.below).more hW.below.size)).mono ?_); intro e w1 hr; exact hW.ret hr))); (simp only [Act.put, Act.eval, Array.getD_eq_getD_getElem?, List.getElem?_toArray, List.getElem?_cons_zero, List.getElem?_cons_succ, Option.getD_some, List.setIfInBounds_toArray, List.set_cons_zero, List.set_cons_succ]); go_big_quiet_on) | (apply quiet_run; (focus (intro W hW; obtain ⟨hB, hS, hC, hF⟩ := hW; have c0 := hC 0 _ rfl; have f0 := hF 0 _ rfl; clear hC hF; (try simp only [Nat.add_zero] at c0 f0); (try simp only [List.length_cons, List.length_nil] at hS); skip; go_simp; first | done | with_reducible rfl)); (simp only [Act.put, Act.eval, Array.getD_eq_getD_getElem?, List.getElem?_toArray, List.getElem?_cons_zero, List.getElem?_cons_succ, Option.getD_some, List.setIfInBounds_toArray, List.set_cons_zero, List.set_cons_succ]); go_big_quiet_on)))); refine wpQuiet_nil ?_; intro w2 hW; obtain ⟨hB, hS, hC, hF⟩ := hW; have c0 := hC 0 _ rfl; have f0 := hF 0 _ rfl; clear hC hF; (try simp only [Nat.add_zero] at c0 f0); (try simp only [List.length_cons, List.length_nil] at hS); skip)
  go_wp2_with (go_at_call 21; (with_reducible refine (c_step_Check_401 _ _ (by with_unfolding_all rfl)).mono ?_); intro e w3 hr; obtain ⟨rfl, hb, hc, hf, hz⟩ := hr.use; (try simp only [World.size_alloc, World.size_setCell, World.size_drew] at hz); clear hr)
  go_returns
  exact Ret.bool rfl (by (repeat' (first | (with_reducible exact Below.refl _ _) | (with_reducible assumption) | (with_reducible refine Below.alloc ?_ ?_ _) | (with_reducible refine Below.drew ?_) | (with_reducible refine Below.setCell ?_ ?_ _) | (refine Below.trans ?_ (Below.mono (by with_reducible assumption) ?_)) | go_size)))
theorem stepChecks_open {H : Type} (enc : TypeId × Value → H) (W : World) (base : Nat) (args : Array Value) (ds : List (DataW H)) (ps : List MemPlace)
    (hval : ∀ (j : Nat) t v, Try.f5.params[j]? = some t → args[j]? = some v → Value.okWide Try.prog W .any base t v)
    (hA : DataW.TrodAll enc Try.prog W 0 (fun _ => true) true Try.f5.params.toList args.toList ds ps) (hlt : ∀ x ∈ ps, x.block < W.heap.size)
    (hsz : (DataW.weightsEach Try.prog Try.f5.params.toList ds).all (· ≤ reachBytes) = true) :
    Calls Try.prog 5 args W fun e W' => e = .returned (.bool true) ∧ Below W.heap.size W W' := by
  rw [Try.params5] at hA hval
  obtain ⟨v0, d0, rfl, rfl, h0⟩ := trodAll_one hA
  obtain ⟨mc, m, rfl, hwf, hm⟩ := open_mach (hval 0 _ v0 rfl rfl) h0
  exact (stepChecks_walk mc m W hwf hm).mono fun e W' hr => hr
set_option maxRecDepth 100000 in
theorem stepChecks_lifted (os : Os) (started : os.Started) (H : Type) (enc : TypeId × Value → H) :
    ReturnsInHanded {} Try.checked os 5 .any (Rows.stepChecksSpec.pre6 enc Try.prog Try.f5 [] false) (Rows.stepChecksSpec.post enc Try.prog Try.f5 false true false false) :=
  lifted (C := Try.checked) (s := Rows.stepChecksSpec) (by kernel_rfl) started (by kernel_rfl) Try.func5
    (ChangeSpec.witness6 (enc := enc) (C := Try.checked) false ⟨#[], #[.agg (machL (List.replicate 8 ⟨false, 0, Key.zero⟩) Key.zero (.slice none 0 0) (.slice none 0 0) (.slice none 0 0)).toArray], []⟩ 12 (by kernel_rfl) (by kernel_rfl) (by kernel_rfl) (by kernel_rfl))
    (by kernel_rfl) (by kernel_rfl) rfl rfl Try.underlying4
    (fun ds h => by match ds, h with | [_], _ => exact ⟨rfl, rfl, rfl⟩)
    (fun W base args ds ps hval hA hlt hsz => stepChecks_open enc W base args ds ps hval hA hlt hsz)
theorem stepChecks_holds : Rows.StepChecksSaid :=
  OpenClaim.holds_of_wide 5 Try.f5 rfl rfl rfl rfl rfl rfl rfl ⟨rfl, rfl, rfl, rfl, rfl⟩ rfl rfl rfl rfl rfl (by kernel_rfl) Try.func5 (by kernel_rfl)
    (of_decide_eq_true (by kernel_rfl)) (by unfold Func.isWrapper; first | (rw [if_pos (by decide +kernel)]; kernel_rfl) | (rw [if_neg (by decide +kernel)]; exact ⟨rfl, rfl⟩))
    (fun os started H enc _ => stepChecks_lifted os started H enc)
#print axioms stepChecks_holds
end Go.Proofs.Ytnbppchpgagliaa
