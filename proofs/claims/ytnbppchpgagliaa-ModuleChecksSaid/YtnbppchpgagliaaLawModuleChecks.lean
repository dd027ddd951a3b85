/- The law ModuleChecks: Check returns what the reference returns, for all arguments. Conditions: none. -/
import Derived.Test.YtnbppchpgagliaaModRf
import Derived.Test.YtnbppchpgagliaaQTail
import Derived.Test.YtnbppchpgagliaaLaw
namespace Go.Proofs.Ytnbppchpgagliaa
open Go.ChangeShapes Go.WideShapes Go.ChangeAt Go.RowKit
set_option linter.unusedVariables false
set_option linter.unusedSimpArgs false
set_option maxRecDepth 100000
theorem listW {P : Program} {ops : Array Oper} {rest : List Oper} {o : Oper} {a : Act} {w : World} {Q : Exit → Act → World → Prop} (hw : Region.wanted o (yielded ops a.tmps) = true) (h : ∀ K, (∀ a w, wpList P ops Q rest a w → K a w) → o.wp P a w K Q) : wpList P ops Q (o :: rest) a w :=
  wpList_step fun K hK => by rw [if_pos hw]; exact h K hK
def mod1 : Mod := ⟨[], [], [⟨⟨#[]⟩, 0⟩], []⟩
theorem mod1_wf : mod1.Wf := ⟨fun i n h => by simp [mod1] at h, fun i n h => by simp [mod1] at h, fun i x h => by
  match i, h with
  | 0, h => cases h; exact ⟨by show (0 : Nat) ≤ maxLen; omega, ⟨by decide, by decide⟩⟩, fun i x h => by simp [mod1] at h⟩
theorem mod1_E : modE mod1 = 3 := by decide
theorem c_Check_one (g : Nat) (w : World) (hb : Box w g 73 #[.string ⟨#[]⟩, .int .i64 0]) :
    Calls Try.prog 38 #[.agg #[.slice none 0 0, .slice none 0 0, .slice (some ⟨g, 0, none⟩) 1 1, .slice none 0 0]] w (Ret (.int .i64 3) w) := by
  have hm : ModV w w.heap.size (.agg #[.slice none 0 0, .slice none 0 0, .slice (some ⟨g, 0, none⟩) 1 1, .slice none 0 0]) mod1 :=
    ⟨none, none, some ⟨g, 0, none⟩, none, 0, 0, 1, 0, rfl, by decide, by decide, by decide, by decide, by decide, by decide, by decide, by decide, Lies.nil_, Lies.nil_,
      fun _ => ⟨g, 0, rfl, hb.lt, fun i x h j hj => by
        match i, h with
        | 0, h => cases h; rw [hb.cell, Nat.zero_mul, Nat.zero_add]; simp [encL]⟩, Lies.nil_⟩
  have := c_module_Check _ mod1 w mod1_wf hm
  rwa [mod1_E] at this
set_option maxHeartbeats 2000000 in
theorem moduleChecks_walk (mv : Value) (m : Mod) (w : World) (hwf : m.Wf) (hm : ModV w w.heap.size mv m) :
    Calls Try.prog 12 #[mv] w (Ret (.bool true) w) := by
  have HW := Lib.hid hwf
  have HM := Lib.hid hm
  obtain ⟨A, D, E, I, a, d, e, i, rfl, -⟩ := hm.ex
  clear hwf hm
  go_enter Try.func12, Try.ntmps12
  go_wp2_with fail
  (refine wp_region_kept_tail 6 (w0 := w) (bs := [#[.slice A m.code.length a, .slice D m.data.length d, .slice E m.exports.length e, .slice I m.imports.length i]]) (by kernel_rfl) (by kernel_rfl) (Kept.mk1 (by (repeat' (first | (with_reducible exact Below.refl _ _) | (with_reducible assumption) | (with_reducible refine Below.alloc ?_ ?_ _) | (with_reducible refine Below.drew ?_) | (with_reducible refine Below.setCell ?_ ?_ _) | (refine Below.trans ?_ (Below.mono (by with_reducible assumption) ?_)) | go_size))) (by go_size) (fun o => by simp [go_sem, *]) (fun o => by simp [go_sem, *])) ?_; simp only [List.take_succ_cons, List.take_zero, List.drop_succ_cons, List.drop_zero]; (repeat (first | go_big_quiet_skip | (go_big_quiet_want; first | (refine BigFrame.quiet_move _ rfl ?_; (simp only [Act.put, Act.eval, Array.getD_eq_getD_getElem?, List.getElem?_toArray, List.getElem?_cons_zero, List.getElem?_cons_succ, Option.getD_some, List.setIfInBounds_toArray, List.set_cons_zero, List.set_cons_succ]); go_big_quiet_on) | (refine BigFrame.quiet_assign _ rfl ?_; (simp only [Act.put, Act.eval, Array.getD_eq_getD_getElem?, List.getElem?_toArray, List.getElem?_cons_zero, List.getElem?_cons_succ, Option.getD_some, List.setIfInBounds_toArray, List.set_cons_zero, List.set_cons_succ]); go_big_quiet_on) | (apply quiet_call; (focus (intro W; go_simp; constructor <;> with_reducible rfl)); (focus (intro W hW; first | (go_at_call 38; (with_reducible refine (c_module_Check _ m _ HW.out ((HM.out.below hW.below).more hW.below.size)).mono ?_); intro e w1 hr; exact hW.ret hr) | (go_at_call 39; (with_reducible refine (r_ModuleCheck _ m _ HW.out ((HM.out.below hW.below).more hW.below.size)).mono ?_); intro e w1 hr; exact hW.ret hr))); (simp only [Act.put, Act.eval, Array.getD_eq_getD_getElem?, List.getElem?_toArray, List.getElem?_cons_zero, List.getElem?_cons_succ, Option.getD_some, List.setIfInBounds_toArray, List.set_cons_zero, List.set_cons_succ]); go_big_quiet_on) | (apply quiet_run; (focus (intro W hW; obtain ⟨hB, hS, hC, hF⟩ := hW; have c0 := hC 0 _ rfl; have f0 := hF 0 _ rfl; clear hC hF; (try simp only [Nat.add_zero] at c0 f0); (try simp only [List.length_cons, List.length_nil] at hS); skip; go_simp; first | done | with_reducible rfl)); (simp only [Act.put, Act.eval, Array.getD_eq_getD_getElem?, List.getElem?_toArray, List.getElem?_cons_zero, List.getElem?_cons_succ, Option.getD_some, List.setIfInBounds_toArray, List.set_cons_zero, List.set_cons_succ]); go_big_quiet_on)))); refine wpQuiet_nil ?_; intro w2 hW; obtain ⟨hB, hS, hC, hF⟩ := hW; have c0 := hC 0 _ rfl; have f0 := hF 0 _ rfl; clear hC hF; (try simp only [Nat.add_zero] at c0 f0); (try simp only [List.length_cons, List.length_nil] at hS); skip)
  have hbx := hB
  have hI := Inv.start w2
  go_wp2_with (first | (refine listW rfl fun K hK => wpI_slice1 _ 73 _ rfl hI Try.underlying67 (us := #[.string ⟨#[]⟩, .int .i64 0]) rfl (size := 2) (by kernel_rfl) rfl fun gx w' hI' hb => hK _ _ ?_; clear hK K; (try replace HM1 := Lib.hid (HM1.out.grow hb)); (try replace HM2 := Lib.hid (HM2.out.grow hb)); (try replace HM3 := Lib.hid (HM3.out.grow hb)); (try replace HM4 := Lib.hid (HM4.out.grow hb)); (try clear hb); clear hI; have hI := hI'; clear hI'; (try simp only [List.cons_append, List.nil_append, List.set_cons_zero, List.set_cons_succ, List.setIfInBounds_toArray, Act.put, Act.eval, Array.getD_eq_getD_getElem?, List.getElem?_toArray, List.getElem?_cons_zero, List.getElem?_cons_succ, Option.getD_some] at hI); (try clear c0); (try clear c1); (try clear c2); (try clear c3); (try clear c4); (try clear c5); (try clear c6); (try clear c7); (try clear c8); (try clear c9); (try clear c10); (try clear c11); (try have c0 := hI.cell (i := 0) rfl); (try have c1 := hI.cell (i := 1) rfl); (try have c2 := hI.cell (i := 2) rfl); (try have c3 := hI.cell (i := 3) rfl); (try have c4 := hI.cell (i := 4) rfl); (try have c5 := hI.cell (i := 5) rfl); (try have c6 := hI.cell (i := 6) rfl); (try have c7 := hI.cell (i := 7) rfl); (try have c8 := hI.cell (i := 8) rfl); (try have c9 := hI.cell (i := 9) rfl); (try have c10 := hI.cell (i := 10) rfl); (try have c11 := hI.cell (i := 11) rfl); skip) | (go_at_call 38; (with_reducible refine (c_Check_one gx _ (hI.box (i := 0) rfl)).mono ?_); intro e w' hr; obtain ⟨rfl, hb⟩ := hr; have hI' := hI.on hb; (try replace HM1 := Lib.hid (HM1.out.grow hb)); (try replace HM2 := Lib.hid (HM2.out.grow hb)); (try replace HM3 := Lib.hid (HM3.out.grow hb)); (try replace HM4 := Lib.hid (HM4.out.grow hb)); (try clear hb); clear hI; have hI := hI'; clear hI'; (try simp only [List.cons_append, List.nil_append, List.set_cons_zero, List.set_cons_succ, List.setIfInBounds_toArray, Act.put, Act.eval, Array.getD_eq_getD_getElem?, List.getElem?_toArray, List.getElem?_cons_zero, List.getElem?_cons_succ, Option.getD_some] at hI); (try clear c0); (try clear c1); (try clear c2); (try clear c3); (try clear c4); (try clear c5); (try clear c6); (try clear c7); (try clear c8); (try clear c9); (try clear c10); (try clear c11); (try have c0 := hI.cell (i := 0) rfl); (try have c1 := hI.cell (i := 1) rfl); (try have c2 := hI.cell (i := 2) rfl); (try have c3 := hI.cell (i := 3) rfl); (try have c4 := hI.cell (i := 4) rfl); (try have c5 := hI.cell (i := 5) rfl); (try have c6 := hI.cell (i := 6) rfl); (try have c7 := hI.cell (i := 7) rfl); (try have c8 := hI.cell (i := 8) rfl); (try have c9 := hI.cell (i := 9) rfl); (try have c10 := hI.cell (i := 10) rfl); (try have c11 := hI.cell (i := 11) rfl); skip) | fail)
  go_returns
  exact Ret.bool (by simp) (hbx.trans (hI.below.mono hbx.size))
theorem moduleChecks_open {H : Type} (enc : TypeId × Value → H) (W : World) (base : Nat) (args : Array Value) (ds : List (DataW H)) (ps : List MemPlace)
    (hval : ∀ (j : Nat) t v, Try.f12.params[j]? = some t → args[j]? = some v → Value.okWide Try.prog W .any base t v)
    (hA : DataW.TrodAll enc Try.prog W 0 (fun _ => true) true Try.f12.params.toList args.toList ds ps) (hlt : ∀ x ∈ ps, x.block < W.heap.size)
    (hsz : (DataW.weightsEach Try.prog Try.f12.params.toList ds).all (· ≤ reachBytes) = true) :
    Calls Try.prog 12 args W fun e W' => e = .returned (.bool true) ∧ Below W.heap.size W W' := by
  rw [Try.params12] at hA hval
  obtain ⟨v0, d0, rfl, rfl, h0⟩ := trodAll_one hA
  obtain ⟨m, hwf, hm⟩ := open_module (hval 0 _ v0 rfl rfl) h0
  exact (moduleChecks_walk v0 m W hwf hm).mono fun e W' hr => hr
set_option maxRecDepth 100000 in
theorem moduleChecks_lifted (os : Os) (started : os.Started) (H : Type) (enc : TypeId × Value → H) :
    ReturnsInHanded {} Try.checked os 12 .any (Rows.moduleChecksSpec.pre6 enc Try.prog Try.f12 [] false) (Rows.moduleChecksSpec.post enc Try.prog Try.f12 false true false false) :=
  lifted (C := Try.checked) (s := Rows.moduleChecksSpec) (by kernel_rfl) started (by kernel_rfl) Try.func12
    (ChangeSpec.witness6 (enc := enc) (C := Try.checked) false ⟨#[], #[.agg #[.slice none 0 0, .slice none 0 0, .slice none 0 0, .slice none 0 0]], []⟩ 12 (by kernel_rfl) (by kernel_rfl) (by kernel_rfl) (by kernel_rfl))
    (by kernel_rfl) (by kernel_rfl) rfl rfl Try.underlying4
    (fun ds h => by match ds, h with | [_], _ => exact ⟨rfl, rfl, rfl⟩)
    (fun W base args ds ps hval hA hlt hsz => moduleChecks_open enc W base args ds ps hval hA hlt hsz)
theorem moduleChecks_holds : Rows.ModuleChecksSaid :=
  OpenClaim.holds_of_wide 12 Try.f12 rfl rfl rfl rfl rfl rfl rfl ⟨rfl, rfl, rfl, rfl, rfl⟩ rfl rfl rfl rfl rfl (by kernel_rfl) Try.func12 (by kernel_rfl)
    (of_decide_eq_true (by kernel_rfl)) (by unfold Func.isWrapper; first | (rw [if_pos (by decide +kernel)]; kernel_rfl) | (rw [if_neg (by decide +kernel)]; exact ⟨rfl, rfl⟩))
    (fun os started H enc _ => moduleChecks_lifted os started H enc)
#print axioms moduleChecks_holds
end Go.Proofs.Ytnbppchpgagliaa
