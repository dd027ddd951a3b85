/- The law ModuleMakes: the program returns what the reference returns, for all arguments that hold together at most 1048576 values and letters; Go's tables hold what they were laid with, which the card ties. Conditions: none. -/
import Derived.Test.YtbkjhdohkdeniaaGreatDoorP41
import Derived.Test.YtbkjhdohkdeniaaGreatDoorP46
import Derived.Test.YtbkjhdohkdeniaaGreatDoorP47
import Derived.Test.YtbkjhdohkdeniaaGreatDoorP48
import Derived.Test.YtbkjhdohkdeniaaGreatDoorP43
import Derived.Test.YtbkjhdohkdeniaaGreatDoorP45
set_option linter.unusedVariables false
set_option linter.unusedSimpArgs false
namespace Go.Proofs.YtbkjhdohkdeniaaGreatDoor
open Go.ChangeShapes Go.WideShapes Go.ChangeAt Go.RowKit
set_option maxRecDepth 100000
theorem short_of {H : Type} {s : ByteArray} {ds : List (DataW H)} (hk : Rows.uptoSmall H (DataW.lit (.string s.data.toList) :: ds) = true) : s.size ≤ 1048576 := by
  have h : Rows.uptoBulkAll (DataW.lit (H := H) (.string s.data.toList) :: ds) ≤ 1048576 := of_decide_eq_true hk
  simp only [Rows.uptoBulkAll, Rows.uptoBulk] at h
  have e : s.data.toList.length = s.size := by rw [Array.length_toList]; rfl
  omega
theorem makeF_len {p : ProgR} {data : List Int} {imp : List Import} : (makeF p data imp).1.code.length ≤ 255 ∧ (makeF p data imp).1.data.length ≤ 255 ∧ (makeF p data imp).1.exports.length ≤ 255 ∧ (makeF p data imp).1.imports.length ≤ 255 := by
  have hz : mzero.code.length ≤ 255 ∧ mzero.data.length ≤ 255 ∧ mzero.exports.length ≤ 255 ∧ mzero.imports.length ≤ 255 := by decide
  unfold makeF
  split
  · exact hz
  · split
    · exact hz
    · rename_i h
      have hl : largeB (makeM p data imp) = false := by
        cases hc : largeB (makeM p data imp)
        · rfl
        · rw [modE_large hc] at h; exact absurd (by decide) h
      have := largeB_no hl
      dsimp only
      omega
def oneLabel : Mod := ⟨[], [], [⟨⟨#[]⟩, 0⟩], []⟩
theorem oneLabel_wf : oneLabel.Wf := ⟨fun i n h => by simp [oneLabel] at h, fun i n h => by simp [oneLabel] at h, fun i x h => by
  have := List.mem_of_getElem? h
  simp only [oneLabel, List.mem_singleton] at this
  subst this
  exact ⟨by decide, by unfold i64; decide⟩, fun i x h => by simp [oneLabel] at h⟩
theorem oneLabel_bad : modE oneLabel = 3 := by decide
theorem oneLabel_at {T : Nat → Prop} {w0 w : World} {rs : List Res} (hI : InvT T w0 rs w) {i g : Nat} {t : TypeId} (hi : rs[i]? = some (.box g t #[.string ⟨#[]⟩, .int .i64 0])) : ModV w w.heap.size (.agg #[.slice none 0 0, .slice none 0 0, .slice (some ⟨g, 0, none⟩) 1 1, .slice none 0 0]) oneLabel :=
  ⟨none, none, some ⟨g, 0, none⟩, none, 0, 0, 1, 0, rfl, Nat.le_refl _, by decide, Nat.le_refl _, by decide, Nat.le_refl _, by decide, Nat.le_refl _, by decide, fun h => absurd rfl h, fun h => absurd rfl h, (hI.lies1 (enc := encL) (size := 2) hi ⟨⟨#[]⟩, 0⟩ (fun j hj => by rw [List.getElem?_toArray]; rfl)).more (hI.lt hi rfl), fun h => absurd rfl h⟩
theorem ModV.grow {w w' : World} {mv : Value} {m : Mod} (h : ModV w w.heap.size mv m) (hb : Below w.heap.size w w') : ModV w' w'.heap.size mv m := (h.below hb).more hb.size
set_option maxHeartbeats 2000000 in
theorem moduleMakes_walk (s : List UInt8) (hs : s.length ≤ 1048576) (A B : Option Addr) (c d : Nat) (data : List Int) (imp : List Import) (w : World) (hE : EnvE w) (hd1 : data.length ≤ maxLen) (hd2 : data.length * 8 ≤ 140737488355328) (hm1 : imp.length ≤ maxLen) (hm2 : imp.length * 24 ≤ 140737488355328)
    (hdw : ∀ (i : Nat) n, data[i]? = some n → i64 n) (hmw : ∀ (i : Nat) x, imp[i]? = some x → Import.Wf x) (hL : Lies encI 1 w w.heap.size A data) (hM : Lies encM 2 w w.heap.size B imp) :
    Calls Tryz.prog 5 #[.string (str s), .slice A data.length c, .slice B imp.length d] w (Ret (.bool true) w) := by
  have h1 := fun w hE hL hM => c_module_Make s (by omega) A B c d data imp w hE hd1 hd2 hm1 hm2 hdw hmw hL hM
  have h2 := fun w hE hL hM => r_ModuleMake s (by omega) A B c d data imp w hE hd1 hd2 hm1 hm2 hdw hmw hL hM
  have hl := makeF_len (p := progR s) (data := data) (imp := imp)
  have HD := Lib.hid hL
  have HM := Lib.hid hM
  generalize makeF (progR s) data imp = F at h1 h2 hl
  obtain ⟨m, ln, er⟩ := F
  unfold MakeRet at h1 h2
  dsimp only at h1 h2 hl
  have H1 := Lib.hid h1
  have H2 := Lib.hid h2
  have HQ := Lib.hid (fun mv mv' w h h' => r_ModEq mv mv' m w hl h h')
  have HCK := Lib.hid (fun mv w hm => oneLabel_bad ▸ c_module_Check mv oneLabel w oneLabel_wf hm)
  clear h1 h2 hl hs hL hM hdw hmw hd1 hd2 hm1 hm2
  generalize str s = ss at *
  go_enter Tryz.func5, Tryz.ntmps5
  have hI := Inv.start w
  go_wp2_with (first | (refine listI_var rfl rfl 51 rfl _ _ rfl hI Tryz.zeroValue51 (fun _ => rfl) (fun _ => rfl) (by first | rfl | (simp only [hsz1]; first | done | rfl | kernel_rfl) | (simp only [hsz2]; first | done | rfl | kernel_rfl) | (simp only [hsz]; first | done | rfl | kernel_rfl) | kernel_rfl) (by first | exact info_mach (by assumption) | (simp only [hsz1]; kernel_rfl) | (simp only [hsz2]; kernel_rfl) | (simp only [hsz]; kernel_rfl) | kernel_rfl) (by first | (simp [Value.oneCell']; done) | exact HO1.out | exact HO2.out) fun gx w' hI' hb => ?_; (try replace HM1 := Lib.hid (HM1.out.grow hb)); (try replace HM2 := Lib.hid (HM2.out.grow hb)); (try clear hb); clear hI; have hI := hI'; clear hI'; (try simp only [mm, Act.put, Act.eval] at hI); (try clear c0); (try clear c1); (try clear c2); (try clear c3); (try clear c4); (try clear c5); (try have c0 := hI.cell (i := 0) rfl); (try have c1 := hI.cell (i := 1) rfl); (try have c2 := hI.cell (i := 2) rfl); (try have c3 := hI.cell (i := 3) rfl); (try have c4 := hI.cell (i := 4) rfl); (try have c5 := hI.cell (i := 5) rfl); skip) | (go_at_call 14; refine (H1.out _ (hE.inv hI) (hI.lies HD.out) (hI.lies HM.out)).mono ?_; rintro e w' ⟨mv, rfl, hm, hb⟩; have hI' := hI.on hb; (try replace HM1 := Lib.hid (HM1.out.grow hb)); (try replace HM2 := Lib.hid (HM2.out.grow hb)); (try clear hb); clear hI; have hI := hI'; clear hI'; (try simp only [mm, Act.put, Act.eval] at hI); (try clear c0); (try clear c1); (try clear c2); (try clear c3); (try clear c4); (try clear c5); (try have c0 := hI.cell (i := 0) rfl); (try have c1 := hI.cell (i := 1) rfl); (try have c2 := hI.cell (i := 2) rfl); (try have c3 := hI.cell (i := 3) rfl); (try have c4 := hI.cell (i := 4) rfl); (try have c5 := hI.cell (i := 5) rfl); skip; obtain ⟨A1, A2, A3, A4, a1, a2, a3, a4, rfl, -⟩ := hm.ex; have HM1 := Lib.hid hm; clear hm) | (go_at_call 15; refine (H2.out _ (hE.inv hI) (hI.lies HD.out) (hI.lies HM.out)).mono ?_; rintro e w' ⟨mv, rfl, hm, hb⟩; have hI' := hI.on hb; (try replace HM1 := Lib.hid (HM1.out.grow hb)); (try replace HM2 := Lib.hid (HM2.out.grow hb)); (try clear hb); clear hI; have hI := hI'; clear hI'; (try simp only [mm, Act.put, Act.eval] at hI); (try clear c0); (try clear c1); (try clear c2); (try clear c3); (try clear c4); (try clear c5); (try have c0 := hI.cell (i := 0) rfl); (try have c1 := hI.cell (i := 1) rfl); (try have c2 := hI.cell (i := 2) rfl); (try have c3 := hI.cell (i := 3) rfl); (try have c4 := hI.cell (i := 4) rfl); (try have c5 := hI.cell (i := 5) rfl); skip; obtain ⟨B1, B2, B3, B4, b1, b2, b3, b4, rfl, -⟩ := hm.ex; have HM2 := Lib.hid hm; clear hm) | (go_at_call 16; (with_reducible refine (HQ.out _ _ _ HM1.out HM2.out).mono ?_); intro e w' hr; obtain ⟨rfl, hb⟩ := hr; have hI' := hI.on hb; (try replace HM1 := Lib.hid (HM1.out.grow hb)); (try replace HM2 := Lib.hid (HM2.out.grow hb)); (try clear hb); clear hI; have hI := hI'; clear hI'; (try simp only [mm, Act.put, Act.eval] at hI); (try clear c0); (try clear c1); (try clear c2); (try clear c3); (try clear c4); (try clear c5); (try have c0 := hI.cell (i := 0) rfl); (try have c1 := hI.cell (i := 1) rfl); (try have c2 := hI.cell (i := 2) rfl); (try have c3 := hI.cell (i := 3) rfl); (try have c4 := hI.cell (i := 4) rfl); (try have c5 := hI.cell (i := 5) rfl); skip) | (refine listI rfl fun K hK => wpI_slice1 _ 47 _ rfl hI Tryz.underlying41 rfl (size := 2) (by kernel_rfl) rfl fun gy w' hI' hb => hK _ _ ?_; clear hK K; (try replace HM1 := Lib.hid (HM1.out.grow hb)); (try replace HM2 := Lib.hid (HM2.out.grow hb)); (try clear hb); clear hI; have hI := hI'; clear hI'; (try simp only [mm, Act.put, Act.eval] at hI); (try clear c0); (try clear c1); (try clear c2); (try clear c3); (try clear c4); (try clear c5); (try have c0 := hI.cell (i := 0) rfl); (try have c1 := hI.cell (i := 1) rfl); (try have c2 := hI.cell (i := 2) rfl); (try have c3 := hI.cell (i := 3) rfl); (try have c4 := hI.cell (i := 4) rfl); (try have c5 := hI.cell (i := 5) rfl); skip) | (go_at_call 17; (with_reducible refine (HCK.out _ _ (oneLabel_at (hI.alloc 47 #[.string ⟨#[]⟩, .int .i64 0]) (i := 2) rfl)).mono ?_); intro e w' hr; obtain ⟨rfl, hb⟩ := hr; have hI' := (hI.alloc 47 #[.string ⟨#[]⟩, .int .i64 0]).on hb; (try replace HM1 := Lib.hid (HM1.out.grow hb)); (try replace HM2 := Lib.hid (HM2.out.grow hb)); (try clear hb); clear hI; have hI := hI'; clear hI'; (try simp only [mm, Act.put, Act.eval] at hI); (try clear c0); (try clear c1); (try clear c2); (try clear c3); (try clear c4); (try clear c5); (try have c0 := hI.cell (i := 0) rfl); (try have c1 := hI.cell (i := 1) rfl); (try have c2 := hI.cell (i := 2) rfl); (try have c3 := hI.cell (i := 3) rfl); (try have c4 := hI.cell (i := 4) rfl); (try have c5 := hI.cell (i := 5) rfl); skip) | fail)
  go_returns
  exact Ret.bool (by simp) hI.below
theorem moduleMakes_reads (os : Os) {H : Type} (enc : TypeId × Value → H) : ∃ places, DataW.whole enc Tryz.prog ((laidWorld os).forCall (fun _ _ => 0) ⟨#[], #[.string ⟨#[]⟩, .slice none 0 0, .slice none 0 0], []⟩).memory Tryz.f5.params.toList Rows.moduleMakesSpec.vars false #[.string ⟨#[]⟩, .slice none 0 0, .slice none 0 0].toList 8 = some ([.lit (.string []), .nil, .nil], [], places) :=
  ⟨[], by kernel_rfl⟩
theorem moduleMakes_open {H : Type} (enc : TypeId × Value → H) (W : World) (base : Nat) (args : Array Value) (ds : List (DataW H)) (ps : List MemPlace)
    (hval : ∀ (j : Nat) t v, Tryz.f5.params[j]? = some t → args[j]? = some v → Value.okWide Tryz.prog W .any base t v)
    (hA : DataW.TrodAll enc Tryz.prog W 0 (fun _ => true) true Tryz.f5.params.toList args.toList ds ps) (hlt : ∀ x ∈ ps, x.block < W.heap.size)
    (hsz : (DataW.weightsEach Tryz.prog Tryz.f5.params.toList ds).all (· ≤ reachBytes) = true) (hk : ∀ k, ((some Rows.uptoSmall) : Option ((H : Type) → List (DataW H) → Bool)) = some k → k H ds = true)
    (hE : EnvE W) :
    Calls Tryz.prog 5 args W fun e W' => e = .returned (.bool true) ∧ Below W.heap.size W W' := by
  rw [Tryz.params5] at hA hval hsz
  obtain ⟨v0, v1, v2, d0, d1, d2, p0, p1, p2, hargs, rfl, rfl, h0, h1, h2⟩ := trodAll_three hA
  subst hargs
  obtain ⟨s, rfl, rfl, _, hmax⟩ := Go.ChangeMaps.open_string Tryz.underlying9 (hval 0 _ v0 rfl rfl) h0
  have hsz' := short_of (hk _ rfl)
  obtain ⟨A, c, l, rfl, hc1, hc2, hwf, hL⟩ := open_rows (α := Int) (enc := encI) (Wf := i64) (size := 1) Tryz.underlying32 cells_int (by decide) (fun h => by obtain ⟨n, z, _, wf⟩ := DataW.trod_int Tryz.underlying3 h; exact ⟨n, i64_of_wf wf, z⟩) (fun k => rfl) (hval 1 _ v1 rfl rfl) h1
  obtain ⟨B, d, m, rfl, hd1, hd2, hmw, hM⟩ := open_rows (α := Import) (enc := encM) (Wf := Import.Wf) (size := 2) Tryz.underlying49 cells_Import (by decide) trod_Import (fun k => rfl) (hval 2 _ v2 rfl rfl) h2
  have hw1 : (d1.weights Tryz.prog 32).all (· ≤ reachBytes) = true := List.all_eq_true.2 fun q hq => List.all_eq_true.1 hsz q (DataW.weights_mem_each (j := 1) rfl rfl q hq)
  have hw2 : (d2.weights Tryz.prog 49).all (· ≤ reachBytes) = true := List.all_eq_true.2 fun q hq => List.all_eq_true.1 hsz q (DataW.weights_mem_each (j := 2) rfl rfl q hq)
  obtain ⟨f1, g1⟩ := h1
  obtain ⟨f2, g2⟩ := h2
  have e1 := slice_weight Tryz.underlying32 g1 hw1
  have e2 := slice_weight Tryz.underlying49 g2 hw2
  rw [show Tryz.prog.bytesOf 3 = 8 by kernel_rfl] at e1
  rw [show Tryz.prog.bytesOf 114 = 24 by kernel_rfl] at e2
  have := moduleMakes_walk s.data.toList (by rw [← Lib.size_eq]; omega) A B c d l m W hE (Nat.le_trans hc1 hc2) (Nat.le_trans e1 (by decide)) (Nat.le_trans hd1 hd2) (Nat.le_trans e2 (by decide)) hwf hmw hL hM
  rw [str_of] at this
  exact this.mono fun e W' hr => hr
set_option maxRecDepth 100000 in
theorem moduleMakes_lifted (os : Os) (started : os.Started) (H : Type) (enc : TypeId × Value → H) (F : Stop.Interp) :
    ReturnsInHanded {} Tryz.checked os 5 .any ((Rows.OpenSpec.upto Rows.moduleMakesSpec).preRow enc Tryz.prog Tryz.f5 [] false laid9) (((Rows.OpenSpec.upto Rows.moduleMakesSpec).at F).post enc Tryz.prog Tryz.f5 false true false false) := by
  obtain ⟨places, hx⟩ := moduleMakes_reads os enc
  exact liftedU (C := Tryz.checked) (s := Rows.moduleMakesSpec) (some Rows.uptoSmall) own started (by kernel_rfl) Tryz.func5
    (witness_row_atRef (enc := enc) (C := Tryz.checked) false (laidWorld os) #[.string ⟨#[]⟩, .slice none 0 0, .slice none 0 0] rfl (by kernel_rfl) (by kernel_rfl) (by kernel_rfl)
      (OpenSpec.preRow_of_cond 8 hx (by kernel_rfl) (fun k hk => by cases hk; kernel_rfl) (by kernel_rfl) (met9 os _)))
    (by kernel_rfl) (by kernel_rfl) rfl rfl Tryz.underlying4
    (fun ds h => by match ds, h with | [_, _, _], _ => exact ⟨rfl, rfl, rfl⟩)
    (fun W base args ds ps hval hA hlt hk hsz hL hSh => moduleMakes_open enc W base args ds ps hval hA hlt hsz hk (envE_of9 hL hSh))
theorem moduleMakes_said : Rows.ModuleMakesUptoSaid :=
  holds_leaving (by kernel_rfl) rfl rfl rfl (OpenClaim.holds_of_cond (c := { Rows.moduleMakesUptoRow with leaving := false }) 5 Tryz.f5 rfl rfl rfl rfl rfl rfl rfl ⟨rfl, rfl, rfl, rfl, rfl⟩ rfl rfl rfl rfl rfl (by kernel_rfl) Tryz.func5 (by kernel_rfl)
    (of_decide_eq_true (by kernel_rfl)) (by unfold Func.isWrapper; first | (rw [if_pos (by decide +kernel)]; kernel_rfl) | (rw [if_neg (by decide +kernel)]; exact ⟨rfl, rfl⟩))
    (fun os started H enc _ F => by rw [OpenClaim.pre_eq_preRow]; exact moduleMakes_lifted os started H enc F))
theorem moduleMakes_plain (f : FuncId) (fn : Func) (hf : Tryz.pinned.checked.prog.funcNamed "custodian/custodianlaw.ModuleMakes" = some f) (hfn : Tryz.pinned.checked.prog.funcs[f]? = some fn) :
    true = Tryz.pinned.checked.prog.looks [] ∧ ∀ (j : Nat) t, fn.params[j]? = some t → Tryz.pinned.checked.prog.wantsStandIn t = false := by
  obtain rfl : f = 5 := Option.some.inj ((show Tryz.prog.funcNamed "custodian/custodianlaw.ModuleMakes" = some 5 by kernel_rfl).symm.trans hf) |>.symm
  obtain rfl : fn = Tryz.f5 := (Option.some.inj (Tryz.func5.symm.trans hfn)).symm
  refine ⟨by kernel_rfl, fun j t ht => ?_⟩
  rw [Tryz.params5] at ht
  focus
    have hm := Array.mem_of_getElem? ht
    simp at hm
    rcases hm with rfl | rfl | rfl
    · exact (show Tryz.prog.wantsStandIn 9 = false by kernel_rfl)
    · exact (show Tryz.prog.wantsStandIn 32 = false by kernel_rfl)
    · exact (show Tryz.prog.wantsStandIn 49 = false by kernel_rfl)
theorem moduleMakes_holds : Rows.ModuleMakesUptoCardSaid :=
  holds_tied_goes .later _ _ _ _ moduleMakes_said (by kernel_rfl) moduleMakesUpto_row_tie rfl ⟨rfl, rfl⟩ (by kernel_rfl) rfl moduleMakes_plain (by kernel_rfl)
#print axioms moduleMakes_holds
end Go.Proofs.YtbkjhdohkdeniaaGreatDoor
