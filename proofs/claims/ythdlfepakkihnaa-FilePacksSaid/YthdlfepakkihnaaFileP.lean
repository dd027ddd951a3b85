/- file.Pack and the reference's FilePack as one plain function; file.Read of a short string. Conditions: none. -/
import Derived.Test.YthdlfepakkihnaaFileC
import Derived.Test.YthdlfepakkihnaaFileR
namespace Go.Proofs.Ythdlfepakkihnaa
open Go.RowKit
set_option linter.unusedVariables false
set_option linter.unusedSimpArgs false
set_option maxRecDepth 100000
theorem c_FPack (mv : Value) (m : Mod) (w : World) (hwf : m.Wf) (hm : ModV w w.heap.size mv m) : Calls Try.prog 19 #[mv] w (Ret (.tuple #[.string (fileS m), .int .i64 (modE m)]) w) := by
  by_cases h : modE m = 0
  · obtain ⟨A, D, E, I, a, d, e, i, rfl, -, -, -, -, -, -, -, -, hA, hD, hE, hI⟩ := hm.ex
    have := c_FPack_ok A D E I a d e i m w hwf h hm hA hD hE hI
    rwa [h, show fileS m = str (fileL m) by unfold fileS; rw [if_pos h]]
  · rw [show fileS m = ByteArray.empty by unfold fileS; rw [if_neg h]]
    exact c_FPack_no mv m w hwf hm (by simpa using h)
theorem r_FPack (mv : Value) (m : Mod) (w : World) (hwf : m.Wf) (hm : ModV w w.heap.size mv m) : Calls Try.prog 20 #[mv] w (Ret (.tuple #[.string (fileS m), .int .i64 (modE m)]) w) := by
  by_cases h : modE m = 0
  · obtain ⟨A, D, E, I, a, d, e, i, rfl, -, -, -, -, -, -, -, -, hA, hD, hE, hI⟩ := hm.ex
    have := r_FPack_ok A D E I a d e i m w hwf h hm hA hD hE hI
    rwa [h, show fileS m = str (fileL m) by unfold fileS; rw [if_pos h]]
  · rw [show fileS m = ByteArray.empty by unfold fileS; rw [if_neg h]]
    exact r_FPack_no mv m w hwf hm (by simpa using h)
theorem c_FRead_short (s : ByteArray) (hs : s.size < 9) (w : World) : Calls Try.prog 21 #[.string s] w (Ret (.tuple #[.agg #[.slice none 0 0, .slice none 0 0, .slice none 0 0, .slice none 0 0], .int .i64 4]) w) := by
  have hI := Inv.start w
  go_enter Try.func21, Try.ntmps21
  go_wp2_with (first | (refine listI rfl fun K hK => wpI_alloc 51 rfl hI Try.zeroValue51 (cs := #[.slice none 0 0, .slice none 0 0, .slice none 0 0, .slice none 0 0]) (by first | rfl | kernel_rfl) fun gx w' hI' hb => hK _ _ ?_; clear hK K; (try replace HM1 := Lib.hid (HM1.out.grow hb)); (try replace HM2 := Lib.hid (HM2.out.grow hb)); (try replace HM3 := Lib.hid (HM3.out.grow hb)); (try replace HM4 := Lib.hid (HM4.out.grow hb)); (try clear hb); clear hI; have hI := hI'; clear hI'; (try simp only [List.cons_append, List.nil_append, List.set_cons_zero, List.set_cons_succ, List.setIfInBounds_toArray, Act.put, Act.eval, Array.getD_eq_getD_getElem?, List.getElem?_toArray, List.getElem?_cons_zero, List.getElem?_cons_succ, Option.getD_some] at hI); (try clear c0); (try clear c1); (try clear c2); (try clear c3); (try clear c4); (try clear c5); (try clear c6); (try clear c7); (try clear c8); (try clear c9); (try clear c10); (try clear c11); (try have c0 := hI.cell (i := 0) rfl); (try have c1 := hI.cell (i := 1) rfl); (try have c2 := hI.cell (i := 2) rfl); (try have c3 := hI.cell (i := 3) rfl); (try have c4 := hI.cell (i := 4) rfl); (try have c5 := hI.cell (i := 5) rfl); (try have c6 := hI.cell (i := 6) rfl); (try have c7 := hI.cell (i := 7) rfl); (try have c8 := hI.cell (i := 8) rfl); (try have c9 := hI.cell (i := 9) rfl); (try have c10 := hI.cell (i := 10) rfl); (try have c11 := hI.cell (i := 11) rfl); skip) | (refine listI rfl fun K hK => wpI_storeW _ _ _ rfl hI rfl 0 rfl rfl rfl (by kernel_rfl) (by simp [Value.oneCell']) fun w' hI' => hK _ _ ?_; clear hK K; (try replace HM1 := Lib.hid (HM1.out.grow hb)); (try replace HM2 := Lib.hid (HM2.out.grow hb)); (try replace HM3 := Lib.hid (HM3.out.grow hb)); (try replace HM4 := Lib.hid (HM4.out.grow hb)); (try clear hb); clear hI; have hI := hI'; clear hI'; (try simp only [List.cons_append, List.nil_append, List.set_cons_zero, List.set_cons_succ, List.setIfInBounds_toArray, Act.put, Act.eval, Array.getD_eq_getD_getElem?, List.getElem?_toArray, List.getElem?_cons_zero, List.getElem?_cons_succ, Option.getD_some] at hI); (try clear c0); (try clear c1); (try clear c2); (try clear c3); (try clear c4); (try clear c5); (try clear c6); (try clear c7); (try clear c8); (try clear c9); (try clear c10); (try clear c11); (try have c0 := hI.cell (i := 0) rfl); (try have c1 := hI.cell (i := 1) rfl); (try have c2 := hI.cell (i := 2) rfl); (try have c3 := hI.cell (i := 3) rfl); (try have c4 := hI.cell (i := 4) rfl); (try have c5 := hI.cell (i := 5) rfl); (try have c6 := hI.cell (i := 6) rfl); (try have c7 := hI.cell (i := 7) rfl); (try have c8 := hI.cell (i := 8) rfl); (try have c9 := hI.cell (i := 9) rfl); (try have c10 := hI.cell (i := 10) rfl); (try have c11 := hI.cell (i := 11) rfl); skip) | fail)
  have hbx := hI.box (i := 0) rfl
  ((try simp only [Exit.inBlock, Exit.then]); refine bodyPost_ret (results_ct rfl rfl hbx Try.underlying51 rfl (by kernel_rfl)) rfl ?_)
  exact ⟨rfl, hI.below⟩
end Go.Proofs.Ythdlfepakkihnaa
