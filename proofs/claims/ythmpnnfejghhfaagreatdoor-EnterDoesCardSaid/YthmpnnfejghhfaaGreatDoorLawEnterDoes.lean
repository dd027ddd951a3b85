/- The law EnterDoes: the program returns what the reference returns, for all arguments; Go's tables hold what they were laid with, which the card ties. Conditions: none. -/
import Derived.Test.YthmpnnfejghhfaaGreatDoorQ14
namespace Go.Proofs.YthmpnnfejghhfaaGreatDoor
open Go.ChangeShapes Go.WideShapes Go.ChangeAt Go.RowKit
set_option linter.unusedVariables false
set_option linter.unusedSimpArgs false
set_option maxRecDepth 100000
theorem doJob_lens (xs : List Val) (es : List Entry) (s : ByteArray) (l : List Int) (fuel : Int) (h : xs.length < 9223372036854775807) : (doJob xs es s l fuel).1.out.length < 9223372036854775807 ∧ (doJob xs es s l fuel).2.length < 9223372036854775807 := by
  have h1 := runF_lens (enterF xs es s l).1 fuel
  unfold doJob
  dsimp only
  split
  · exact ⟨(by show (0 : Nat) < 9223372036854775807; decide), h⟩
  · split
    · exact ⟨(by show (0 : Nat) < 9223372036854775807; decide), h⟩
    · exact ⟨h1.2.2, h1.1⟩
set_option maxHeartbeats 4000000 in
theorem enterDoes_walk (A E Ap O : Option Addr) (c e np cp o : Nat) (xs : List Val) (es : List Entry) (s : ByteArray) (l : List Int) (fuel : Int) (w : World) (he : es.length ≤ e) (he' : e ≤ maxLen) (ho : l.length ≤ maxLen) (hwf : ∀ (i : Nat) v, xs[i]? = some v → Val.Wf v) (hwe : ∀ (i : Nat) v, es[i]? = some v → Entry.Wf v)
    (hE : Env w) (hx1 : xs.length ≤ maxLen) (hx2 : xs.length * 56 ≤ 140737488355328) (hL : Lies encV 7 w w.heap.size A xs) (hM : Lies encE 11 w w.heap.size E es) (hN : Lies encI 1 w w.heap.size O l) :
    Calls Tryz.prog 10 #[.agg #[.slice A xs.length c, .slice Ap np cp, .slice E es.length e], .agg #[.string s, .slice O l.length o, .int .i64 fuel]] w (Ret (.bool true) w) := by
  have HL := Lib.hid hL
  have HM := Lib.hid hM
  have HN := Lib.hid hN
  have HE := Lib.hid hE
  have h0 := Lib.hid (fun W hE hL hM hN => c_Do A E Ap O c e np cp o xs es s l fuel W (Nat.le_trans he he') ho hE hx1 hx2 hL hM hN)
  have h2 := Lib.hid (fun W hE hL hM hN => r_Do A E Ap O c e np cp o xs es s l fuel W he he' ho hwf hwe hE hx1 hx2 hL hM hN)
  have h3 := Lib.hid (fun W hE hN => c_Do none none none O 0 0 0 0 o [] [] s l fuel W (Nat.zero_le _) ho hE (Nat.zero_le _) (by decide) Lies.nil_ Lies.nil_ hN)
  have hne := doJob_nil s l fuel
  have hlens := doJob_lens xs es s l fuel (by omega)
  clear hL hM hN hE hwf hwe
  generalize doJob xs es s l fuel = q at h0 h2 hlens
  generalize doJob [] [] s l fuel = q3 at h3 hne
  obtain ⟨d, ys⟩ := q
  obtain ⟨d3, ys3⟩ := q3
  dsimp only at h0 h2 h3 hne hlens
  have hd0 := Lib.hid hlens.1
  have hy0 := Lib.hid hlens.2
  clear hlens
  have hI := Inv.start w
  go_enter Tryz.func10, Tryz.ntmps10
  go_wp2_with (first
    | ((with_reducible refine at_box ?_); first | (refine listI rfl fun K hK => wpI_box _ _ rfl hI rfl fun gx w' hI' hb => hK _ _ ?_; clear hK K; (try replace HM1 := Lib.hid (HM1.out.grow hb)); (try replace HM2 := Lib.hid (HM2.out.grow hb)); (try replace HM3 := Lib.hid (HM3.out.grow hb)); (try replace HM4 := Lib.hid (HM4.out.grow hb)); (try clear hb); replace hI := hI'; clear hI'; replace cF := hI.facts; (try simp only [mm, Act.put, Act.eval] at hI cF)) | (refine listI rfl fun K hK => wpI_box1 _ _ rfl hI rfl rfl fun gx w' hI' hb => hK _ _ ?_; clear hK K; (try replace HM1 := Lib.hid (HM1.out.grow hb)); (try replace HM2 := Lib.hid (HM2.out.grow hb)); (try replace HM3 := Lib.hid (HM3.out.grow hb)); (try replace HM4 := Lib.hid (HM4.out.grow hb)); (try clear hb); replace hI := hI'; clear hI'; replace cF := hI.facts; (try simp only [mm, Act.put, Act.eval] at hI cF)))
    | (go_at_call 20; refine (h0.out _ (HE.out.inv hI) (hI.lies HL.out) (hI.lies HM.out) (hI.lies HN.out)).mono ?_; rintro e w' ⟨O1, o1, A1, k1, rfl, hO1, hol, hom, hA1, hyl, hym, hb⟩; have hI' := hI.on hb; (try replace HM1 := Lib.hid (HM1.out.grow hb)); (try replace HM2 := Lib.hid (HM2.out.grow hb)); (try replace HM3 := Lib.hid (HM3.out.grow hb)); (try replace HM4 := Lib.hid (HM4.out.grow hb)); (try clear hb); replace hI := hI'; clear hI'; replace cF := hI.facts; (try simp only [mm, Act.put, Act.eval] at hI cF); have HM1 := Lib.hid hO1; have HM2 := Lib.hid hA1; clear hO1 hA1 hol hom hyl hym h0)
    | (go_at_call 21; refine (h2.out _ (HE.out.inv hI) (hI.lies HL.out) (hI.lies HM.out) (hI.lies HN.out)).mono ?_; rintro e w' ⟨O2, o2, A2, k2, rfl, hO2, hol, hom, hA2, hyl, hym, hb⟩; have hI' := hI.on hb; (try replace HM1 := Lib.hid (HM1.out.grow hb)); (try replace HM2 := Lib.hid (HM2.out.grow hb)); (try replace HM3 := Lib.hid (HM3.out.grow hb)); (try replace HM4 := Lib.hid (HM4.out.grow hb)); (try clear hb); replace hI := hI'; clear hI'; replace cF := hI.facts; (try simp only [mm, Act.put, Act.eval] at hI cF); have HM3 := Lib.hid hO2; have HM4 := Lib.hid hA2; clear hO2 hA2 hol hom hyl hym h2)
    | (go_at_call 20; refine (h3.out _ (HE.out.inv hI) (hI.lies HN.out)).mono ?_; rintro e w' ⟨O3, o3, A3, k3, rfl, hO3, hol, hom, hA3, hyl, hym, hb⟩; have hI' := hI.on hb; (try replace HM1 := Lib.hid (HM1.out.grow hb)); (try replace HM2 := Lib.hid (HM2.out.grow hb)); (try replace HM3 := Lib.hid (HM3.out.grow hb)); (try replace HM4 := Lib.hid (HM4.out.grow hb)); (try clear hb); replace hI := hI'; clear hI'; replace cF := hI.facts; (try simp only [mm, Act.put, Act.eval] at hI cF); clear hO3 hA3 hol hom hyl hym h3)
    | ((with_reducible refine at_alloc ?_); first | (refine lv 53 hI Tryz.zeroValue53 fun gx w' hI' hb => ?_; (try replace HM1 := Lib.hid (HM1.out.grow hb)); (try replace HM2 := Lib.hid (HM2.out.grow hb)); (try replace HM3 := Lib.hid (HM3.out.grow hb)); (try replace HM4 := Lib.hid (HM4.out.grow hb)); (try clear hb); replace hI := hI'; clear hI'; replace cF := hI.facts; (try simp only [mm, Act.put, Act.eval] at hI cF)))
    | (go_at_call 22; (with_reducible refine (r_DoneSame O1 O2 o1 o2 d _ hd0.out HM1.out HM3.out).mono ?_); intro e w' hr; obtain ⟨rfl, hb⟩ := hr; have hI' := hI.on hb; (try replace HM1 := Lib.hid (HM1.out.grow hb)); (try replace HM2 := Lib.hid (HM2.out.grow hb)); (try replace HM3 := Lib.hid (HM3.out.grow hb)); (try replace HM4 := Lib.hid (HM4.out.grow hb)); (try clear hb); replace hI := hI'; clear hI'; replace cF := hI.facts; (try simp only [mm, Act.put, Act.eval] at hI cF))
    | (go_at_call 23; (with_reducible refine (r_Eq_V A1 A2 k1 k2 ys ys _ hy0.out HM2.out HM4.out).mono ?_); intro e w' hr; obtain ⟨rfl, hb⟩ := hr; have hI' := hI.on hb; (try replace HM1 := Lib.hid (HM1.out.grow hb)); (try replace HM2 := Lib.hid (HM2.out.grow hb)); (try replace HM3 := Lib.hid (HM3.out.grow hb)); (try replace HM4 := Lib.hid (HM4.out.grow hb)); (try clear hb); replace hI := hI'; clear hI'; replace cF := hI.facts; (try simp only [mm, Act.put, Act.eval] at hI cF)) | fail)
  go_returns
  exact Ret.bool (by simp [hne]) hI.below
theorem enterDoes_reads (os : Os) {H : Type} (enc : TypeId × Value → H) : ∃ places, DataW.whole enc Tryz.prog ((laidWorld os).forCall (fun _ _ => 0) ⟨#[], #[.agg #[.slice none 0 0, .slice none 0 0, .slice none 0 0], .agg #[.string ⟨#[]⟩, .slice none 0 0, .int .i64 0]], []⟩).memory Tryz.f10.params.toList Rows.enterDoesSpec.vars false #[.agg #[.slice none 0 0, .slice none 0 0, .slice none 0 0], .agg #[.string ⟨#[]⟩, .slice none 0 0, .int .i64 0]].toList 8 = some ([.agg [.nil, .nil, .nil], .agg [.lit (.string []), .nil, .lit (.int .i64 0)]], [], places) :=
  ⟨[], by kernel_rfl⟩
theorem enterDoes_open {H : Type} (enc : TypeId × Value → H) (W : World) (base : Nat) (args : Array Value) (ds : List (DataW H)) (ps : List MemPlace)
    (hval : ∀ (j : Nat) t v, Tryz.f10.params[j]? = some t → args[j]? = some v → Value.okWide Tryz.prog W .any base t v)
    (hA : DataW.TrodAll enc Tryz.prog W 0 (fun _ => true) true Tryz.f10.params.toList args.toList ds ps) (hlt : ∀ x ∈ ps, x.block < W.heap.size)
    (hsz : (DataW.weightsEach Tryz.prog Tryz.f10.params.toList ds).all (· ≤ reachBytes) = true) (hE : Env W) :
    Calls Tryz.prog 10 args W fun e W' => e = .returned (.bool true) ∧ Below W.heap.size W W' := by
  rw [Tryz.params10] at hA hval hsz
  obtain ⟨v0, v1, d0, d1, p0, p1, hargs, rfl, rfl, h0, h1⟩ := trodAll_two hA
  subst hargs
  obtain ⟨A, c, xs, x1, E, e, es, rfl, hP, y1, y2, y3, y4, k1, k2, k3, k4⟩ := open_image (hval 0 _ v0 rfl rfl) h0
  obtain ⟨s, O, l, o, n, rfl, l1, l2, l3⟩ := open_job (hval 1 _ v1 rfl rfl) h1
  obtain ⟨Ap, np, cp, rfl⟩ := hP
  have hw : (d0.weights Tryz.prog 49).all (· ≤ reachBytes) = true := List.all_eq_true.2 fun q hq => List.all_eq_true.1 hsz q (DataW.weights_mem_each (j := 0) rfl rfl q hq)
  have h56 := image_weight h0 hw
  exact (enterDoes_walk A E Ap O c e np cp o xs es s l n W k1 k2 (Nat.le_trans l1 l2) y3 k3 hE (Nat.le_trans y1 y2) (Nat.le_trans h56 (Nat.le_of_lt (Nat.lt_of_lt_of_le reachBytes_lt (by decide)))) y4 k4 l3).mono fun e W' hr => hr
set_option maxRecDepth 100000 in
theorem enterDoes_lifted (os : Os) (started : os.Started) (H : Type) (enc : TypeId × Value → H) (F : Stop.Interp) :
    ReturnsInHanded {} Tryz.checked os 10 .any ((OpenSpec.ofChange Rows.enterDoesSpec).preRow enc Tryz.prog Tryz.f10 [] false laidAll) (((OpenSpec.ofChange Rows.enterDoesSpec).at F).post enc Tryz.prog Tryz.f10 false true false false) := by
  obtain ⟨places, hx⟩ := enterDoes_reads os enc
  exact liftedLS (C := Tryz.checked) (s := Rows.enterDoesSpec) own started (by kernel_rfl) Tryz.func10
    (witness_row_atRef (enc := enc) (C := Tryz.checked) false (laidWorld os) #[.agg #[.slice none 0 0, .slice none 0 0, .slice none 0 0], .agg #[.string ⟨#[]⟩, .slice none 0 0, .int .i64 0]] rfl (by kernel_rfl) (by kernel_rfl) (by kernel_rfl)
      (OpenSpec.preRow_of_cond 8 hx (by kernel_rfl) (fun k hk => by cases hk) (by kernel_rfl) (laid_met os _)))
    (by kernel_rfl) (by kernel_rfl) rfl rfl Tryz.underlying4
    (fun ds h => by match ds, h with | [_, _], _ => exact ⟨rfl, rfl, rfl⟩)
    (fun W base args ds ps hval hA hlt hsz hL hSh => enterDoes_open enc W base args ds ps hval hA hlt hsz (env_of hL hSh))
theorem enterDoes_said : Rows.EnterDoesSaid :=
  OpenClaim.holds_of_cond 10 Tryz.f10 rfl rfl rfl rfl rfl rfl rfl ⟨rfl, rfl, rfl, rfl, rfl⟩ rfl rfl rfl rfl rfl (by kernel_rfl) Tryz.func10 (by kernel_rfl)
    (of_decide_eq_true (by kernel_rfl)) (by unfold Func.isWrapper; first | (rw [if_pos (by decide +kernel)]; kernel_rfl) | (rw [if_neg (by decide +kernel)]; exact ⟨rfl, rfl⟩))
    (fun os started H enc _ F => by rw [OpenClaim.pre_eq_preRow]; exact enterDoes_lifted os started H enc F)
theorem enterDoes_plain (f : FuncId) (fn : Func) (hf : Tryz.pinned.checked.prog.funcNamed "custodian/custodianlaw.EnterDoes" = some f) (hfn : Tryz.pinned.checked.prog.funcs[f]? = some fn) :
    true = Tryz.pinned.checked.prog.looks [] ∧ ∀ (j : Nat) t, fn.params[j]? = some t → Tryz.pinned.checked.prog.wantsStandIn t = false := by
  obtain rfl : f = 10 := Option.some.inj ((show Tryz.prog.funcNamed "custodian/custodianlaw.EnterDoes" = some 10 by kernel_rfl).symm.trans hf) |>.symm
  obtain rfl : fn = Tryz.f10 := (Option.some.inj (Tryz.func10.symm.trans hfn)).symm
  refine ⟨by kernel_rfl, fun j t ht => ?_⟩
  rw [Tryz.params10] at ht
  have h := Array.mem_of_getElem? ht
  simp only [List.mem_toArray, List.mem_cons, List.not_mem_nil, or_false] at h
  rcases h with h | h <;> exact (show Tryz.pinned.checked.prog.wantsStandIn t = false by rw [h]; kernel_rfl)
theorem enterDoes_holds : Rows.EnterDoesCardSaid :=
  Claim7.holds_tied_plain_at .later [] _ _ _ _ enterDoes_said (fun _ h => by cases h) (by kernel_rfl) (fun _ h => by cases h) enterDoes_row_tie rfl ⟨rfl, rfl⟩ (by kernel_rfl) rfl enterDoes_plain (by kernel_rfl)
#print axioms enterDoes_holds
end Go.Proofs.YthmpnnfejghhfaaGreatDoor
