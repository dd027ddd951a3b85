/- The law ProgReads: the program returns what the reference returns, for all arguments that hold together at most 1048576 values and letters; Go's tables hold what they were laid with, which the card ties. Conditions: none. -/
import Derived.Test.YtbkjhdohkdeniaaGreatDoorP27
import Derived.Test.YtbkjhdohkdeniaaGreatDoorP35
import Derived.Test.YtbkjhdohkdeniaaGreatDoorP41
import Derived.Test.YtbkjhdohkdeniaaGreatDoorP43
import Derived.Test.YtbkjhdohkdeniaaGreatDoorP45
set_option linter.unusedVariables false
set_option linter.unusedSimpArgs false
namespace Go.Proofs.YtbkjhdohkdeniaaGreatDoor
open Go.ChangeShapes Go.WideShapes Go.ChangeAt Go.RowKit
set_option maxRecDepth 100000
theorem short_of {H : Type} {s : ByteArray} {ds : List (DataW H)} (hk : Rows.uptoSmall H (DataW.lit (.string s.data.toList) :: ds) = true) : s.size ≤ 1048576 := by
  have h : Rows.uptoBulkAll (DataW.lit (H := H) (.string s.data.toList) :: ds) ≤ 1048576 := of_decide_eq_true hk
  simp only [Rows.uptoBulkAll, Rows.uptoBulk] at h
  have e : s.data.toList.length = s.size := by rw [Array.length_toList]; rfl
  omega
set_option maxHeartbeats 2000000 in
theorem progReads_walk (s : List UInt8) (hs : s.length ≤ 1048576) (w : World) (hE : EnvE w) : Calls Tryz.prog 4 #[.string (str s)] w (Ret (.bool true) w) := by
  have h1 := fun w h => c_prog_Read s (by omega) w h
  have h2 := fun w h => r_ProgRead s (by omega) w h
  have hl := progR_len s
  generalize progR s = q at h1 h2 hl
  obtain ⟨code, labs, ln, er⟩ := q
  unfold ProgRet at h1
  unfold RefRet at h2
  dsimp only at h1 h2 hl
  have H1 := Lib.hid h1
  have H2 := Lib.hid h2
  have hl1 : code.length < 9223372036854775807 := by omega
  have hl2 : (labs.map toLabel).length < 9223372036854775807 := by rw [List.length_map]; omega
  have HQ := Lib.hid (fun A A' a a' w hL hM => (show decide (code = code) = true from decide_eq_true rfl) ▸ r_Eq_I A A' a a' code code w hl1 hL hM)
  have HR := Lib.hid (fun A A' a a' w (hL : Lies encLab 2 w w.heap.size A labs) (hM : Lies encLab 2 w w.heap.size A' labs) => (toLabel_len labs) ▸ (show decide (labs.map toLabel = labs.map toLabel) = true from decide_eq_true rfl) ▸ r_Eq_L A A' a a' (labs.map toLabel) (labs.map toLabel) w hl2 hL.labs hM.labs)
  clear h1 h2 hl hl1 hl2 hs
  generalize str s = ss at *
  go_enter Tryz.func4, Tryz.ntmps4
  have hI := Inv.start w
  go_wp2_with (first | (go_at_call 10; refine (H1.out _ (hE.inv hI)).mono ?_; rintro e w' ⟨vc, vl, rfl, hr⟩; have hI' := hI.joinP hr; simp only [List.nil_append, List.cons_append] at hI'; (try clear hb); clear hI; have hI := hI'; clear hI'; (try simp only [mm, Act.put, Act.eval] at hI); (try clear c0); (try clear c1); (try clear c2); (try clear c3); (try clear c4); (try clear c5); (try have c0 := hI.cell (i := 0) rfl); (try have c1 := hI.cell (i := 1) rfl); (try have c2 := hI.cell (i := 2) rfl); (try have c3 := hI.cell (i := 3) rfl); (try have c4 := hI.cell (i := 4) rfl); (try have c5 := hI.cell (i := 5) rfl); skip; obtain ⟨V1, k1, e1⟩ := (hI.own0 (enc := encI) (xs := code) (size := 1) (i := 0) rfl).form; obtain ⟨V2, k2, e2⟩ := (hI.own0 (enc := encLab) (xs := labs) (size := 2) (i := 1) rfl).form; subst e1 e2) | (go_at_call 11; refine (H2.out _ (hE.inv hI).envT.env).mono ?_; rintro e w' ⟨vd, vm, rfl, hr⟩; have hI' := hI.joinP hr; simp only [List.nil_append, List.cons_append] at hI'; (try clear hb); clear hI; have hI := hI'; clear hI'; (try simp only [mm, Act.put, Act.eval] at hI); (try clear c0); (try clear c1); (try clear c2); (try clear c3); (try clear c4); (try clear c5); (try have c0 := hI.cell (i := 0) rfl); (try have c1 := hI.cell (i := 1) rfl); (try have c2 := hI.cell (i := 2) rfl); (try have c3 := hI.cell (i := 3) rfl); (try have c4 := hI.cell (i := 4) rfl); (try have c5 := hI.cell (i := 5) rfl); skip; obtain ⟨V3, k3, e3⟩ := (hI.own0 (enc := encI) (xs := code) (size := 1) (i := 2) rfl).form; obtain ⟨V4, k4, e4⟩ := (hI.own0 (enc := encLab) (xs := labs) (size := 2) (i := 3) rfl).form; subst e3 e4) | (go_at_call 12; (with_reducible refine (HQ.out _ _ _ _ _ ((hI.own0 (enc := encI) (xs := code) (size := 1) (i := 0) rfl).liesB len_Int rfl) ((hI.own0 (enc := encI) (xs := code) (size := 1) (i := 2) rfl).liesB len_Int rfl)).mono ?_); intro e w' hr; obtain ⟨rfl, hb⟩ := hr; have hI' := hI.on hb; (try clear hb); clear hI; have hI := hI'; clear hI'; (try simp only [mm, Act.put, Act.eval] at hI); (try clear c0); (try clear c1); (try clear c2); (try clear c3); (try clear c4); (try clear c5); (try have c0 := hI.cell (i := 0) rfl); (try have c1 := hI.cell (i := 1) rfl); (try have c2 := hI.cell (i := 2) rfl); (try have c3 := hI.cell (i := 3) rfl); (try have c4 := hI.cell (i := 4) rfl); (try have c5 := hI.cell (i := 5) rfl); skip) | (go_at_call 13; (with_reducible refine (HR.out _ _ _ _ _ ((hI.own0 (enc := encLab) (xs := labs) (size := 2) (i := 1) rfl).liesB len_Lab rfl) ((hI.own0 (enc := encLab) (xs := labs) (size := 2) (i := 3) rfl).liesB len_Lab rfl)).mono ?_); intro e w' hr; obtain ⟨rfl, hb⟩ := hr; have hI' := hI.on hb; (try clear hb); clear hI; have hI := hI'; clear hI'; (try simp only [mm, Act.put, Act.eval] at hI); (try clear c0); (try clear c1); (try clear c2); (try clear c3); (try clear c4); (try clear c5); (try have c0 := hI.cell (i := 0) rfl); (try have c1 := hI.cell (i := 1) rfl); (try have c2 := hI.cell (i := 2) rfl); (try have c3 := hI.cell (i := 3) rfl); (try have c4 := hI.cell (i := 4) rfl); (try have c5 := hI.cell (i := 5) rfl); skip) | fail)
  go_returns
  exact Ret.bool (by simp) hI.below
theorem progReads_reads (os : Os) {H : Type} (enc : TypeId × Value → H) : ∃ places, DataW.whole enc Tryz.prog ((laidWorld os).forCall (fun _ _ => 0) ⟨#[], #[.string ⟨#[]⟩], []⟩).memory Tryz.f4.params.toList Rows.progReadsSpec.vars false #[.string ⟨#[]⟩].toList 8 = some ([.lit (.string [])], [], places) :=
  ⟨[], by kernel_rfl⟩
theorem progReads_open {H : Type} (enc : TypeId × Value → H) (W : World) (base : Nat) (args : Array Value) (ds : List (DataW H)) (ps : List MemPlace)
    (hval : ∀ (j : Nat) t v, Tryz.f4.params[j]? = some t → args[j]? = some v → Value.okWide Tryz.prog W .any base t v)
    (hA : DataW.TrodAll enc Tryz.prog W 0 (fun _ => true) true Tryz.f4.params.toList args.toList ds ps) (hlt : ∀ x ∈ ps, x.block < W.heap.size)
    (hsz : (DataW.weightsEach Tryz.prog Tryz.f4.params.toList ds).all (· ≤ reachBytes) = true) (hk : ∀ k, ((some Rows.uptoSmall) : Option ((H : Type) → List (DataW H) → Bool)) = some k → k H ds = true)
    (hE : EnvE W) :
    Calls Tryz.prog 4 args W fun e W' => e = .returned (.bool true) ∧ Below W.heap.size W W' := by
  rw [Tryz.params4] at hA hval hsz
  obtain ⟨v0, d0, rfl, rfl, h0⟩ := trodAll_one hA
  obtain ⟨s, rfl, rfl, _, hmax⟩ := Go.ChangeMaps.open_string Tryz.underlying9 (hval 0 _ v0 rfl rfl) h0
  have hsz' := short_of (hk _ rfl)
  have := progReads_walk s.data.toList (by rw [← Lib.size_eq]; omega) W hE
  rw [str_of] at this
  exact this.mono fun e W' hr => hr
set_option maxRecDepth 100000 in
theorem progReads_lifted (os : Os) (started : os.Started) (H : Type) (enc : TypeId × Value → H) (F : Stop.Interp) :
    ReturnsInHanded {} Tryz.checked os 4 .any ((Rows.OpenSpec.upto Rows.progReadsSpec).preRow enc Tryz.prog Tryz.f4 [] false laid9) (((Rows.OpenSpec.upto Rows.progReadsSpec).at F).post enc Tryz.prog Tryz.f4 false true false false) := by
  obtain ⟨places, hx⟩ := progReads_reads os enc
  exact liftedU (C := Tryz.checked) (s := Rows.progReadsSpec) (some Rows.uptoSmall) own started (by kernel_rfl) Tryz.func4
    (witness_row_atRef (enc := enc) (C := Tryz.checked) false (laidWorld os) #[.string ⟨#[]⟩] rfl (by kernel_rfl) (by kernel_rfl) (by kernel_rfl)
      (OpenSpec.preRow_of_cond 8 hx (by kernel_rfl) (fun k hk => by cases hk; kernel_rfl) (by kernel_rfl) (met9 os _)))
    (by kernel_rfl) (by kernel_rfl) rfl rfl Tryz.underlying4
    (fun ds h => by match ds, h with | [_], _ => exact ⟨rfl, rfl, rfl⟩)
    (fun W base args ds ps hval hA hlt hk hsz hL hSh => progReads_open enc W base args ds ps hval hA hlt hsz hk (envE_of9 hL hSh))
theorem progReads_said : Rows.ProgReadsUptoSaid :=
  holds_leaving (by kernel_rfl) rfl rfl rfl (OpenClaim.holds_of_cond (c := { Rows.progReadsUptoRow with leaving := false }) 4 Tryz.f4 rfl rfl rfl rfl rfl rfl rfl ⟨rfl, rfl, rfl, rfl, rfl⟩ rfl rfl rfl rfl rfl (by kernel_rfl) Tryz.func4 (by kernel_rfl)
    (of_decide_eq_true (by kernel_rfl)) (by unfold Func.isWrapper; first | (rw [if_pos (by decide +kernel)]; kernel_rfl) | (rw [if_neg (by decide +kernel)]; exact ⟨rfl, rfl⟩))
    (fun os started H enc _ F => by rw [OpenClaim.pre_eq_preRow]; exact progReads_lifted os started H enc F))
theorem progReads_plain (f : FuncId) (fn : Func) (hf : Tryz.pinned.checked.prog.funcNamed "custodian/custodianlaw.ProgReads" = some f) (hfn : Tryz.pinned.checked.prog.funcs[f]? = some fn) :
    true = Tryz.pinned.checked.prog.looks [] ∧ ∀ (j : Nat) t, fn.params[j]? = some t → Tryz.pinned.checked.prog.wantsStandIn t = false := by
  obtain rfl : f = 4 := Option.some.inj ((show Tryz.prog.funcNamed "custodian/custodianlaw.ProgReads" = some 4 by kernel_rfl).symm.trans hf) |>.symm
  obtain rfl : fn = Tryz.f4 := (Option.some.inj (Tryz.func4.symm.trans hfn)).symm
  refine ⟨by kernel_rfl, fun j t ht => ?_⟩
  rw [Tryz.params4] at ht
  focus
    obtain rfl : t = 9 := by simpa using Array.mem_of_getElem? ht
    exact (show Tryz.prog.wantsStandIn 9 = false by kernel_rfl)
theorem progReads_holds : Rows.ProgReadsUptoCardSaid :=
  holds_tied_goes .later _ _ _ _ progReads_said (by kernel_rfl) progReadsUpto_row_tie rfl ⟨rfl, rfl⟩ (by kernel_rfl) rfl progReads_plain (by kernel_rfl)
#print axioms progReads_holds
end Go.Proofs.YtbkjhdohkdeniaaGreatDoor
