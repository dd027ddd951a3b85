/- The law HeapGives: Give returns what the reference returns, for all arguments. Conditions: none. -/
import Derived.Test.YtmalaomcolgfcaaHeapGiveR
import Derived.Test.YtmalaomcolgfcaaLaw

namespace Go.Proofs.Ytmalaomcolgfcaa
open Go.ChangeShapes Go.WideShapes Go.ChangeAt Go.RowKit
set_option linter.unusedVariables false
set_option linter.unusedSimpArgs false
set_option maxRecDepth 100000

theorem heapGive_len (l : List Piece) (n : Int) : (heapGive l n).1.length ≤ 31 := by
  by_cases h : heapE l = 0
  · by_cases hn : n < 1
    · rw [give_arg h hn]; simp
    · rcases idxFrom_cases (giveQ n) l 0 with hi | ⟨i, hi⟩
      · rw [give_none h hn hi]; simp
      · obtain ⟨hlt, x, hx, _⟩ := idxFrom_lt hi
        by_cases hf : 30 < (giveL l i n x).length
        · rw [give_full h hn hi hx hf]; simp
        · rw [give_some h hn hi hx hf]; show (giveL l i n x).length ≤ 31; omega
  · rw [give_no h]; simp
set_option maxHeartbeats 1000000 in
theorem heapGives_walk (A : Option Addr) (c : Nat) (xs : List Piece) (n : Int) (w : World) (hL : Lies encP 3 w w.heap.size A xs) :
    Calls Try.prog 14 #[.slice A xs.length c, .int .i64 n] w (Ret (.bool true) w) := by
  have hlen := heapGive_len xs n
  have h1 := c_heap_Give A c xs n
  have h2 := r_HeapGive A c xs n
  generalize heapGive xs n = r at hlen h1 h2
  obtain ⟨ys, k, err⟩ := r
  have H1 := Lib.hid h1
  have H2 := Lib.hid h2
  clear h1 h2
  have hys : ys.length < 9223372036854775807 := by have : ys.length ≤ 31 := hlen; omega
  go_enter Try.func14, Try.ntmps14
  have hI := Inv.start w
  go_wp2_with (first | (refine listI rfl fun K hK => wpI_alloc 38 rfl hI Try.zeroValue38 (cs := #[.int .i64 Key.zero.perm, .int .i64 Key.zero.base, .int .i64 Key.zero.len, .int .i64 Key.zero.pos, .int .i64 Key.zero.tag]) (by first | rfl | kernel_rfl) fun gx w' hI' hb => hK _ _ ?_; clear hK K; (try replace HM1 := Lib.hid (HM1.out.grow hb)); (try replace HM2 := Lib.hid (HM2.out.grow hb)); (try replace HM3 := Lib.hid (HM3.out.grow hb)); (try replace HM4 := Lib.hid (HM4.out.grow hb)); (try clear hb); clear hI; have hI := hI'; clear hI'; (try simp only [List.cons_append, List.nil_append, List.set_cons_zero, List.set_cons_succ, List.setIfInBounds_toArray, Act.put, Act.eval, Array.getD_eq_getD_getElem?, List.getElem?_toArray, List.getElem?_cons_zero, List.getElem?_cons_succ, Option.getD_some] at hI); (try clear c0); (try clear c1); (try clear c2); (try clear c3); (try clear c4); (try clear c5); (try clear c6); (try clear c7); (try clear c8); (try clear c9); (try clear c10); (try clear c11); (try have c0 := hI.cell (i := 0) rfl); (try have c1 := hI.cell (i := 1) rfl); (try have c2 := hI.cell (i := 2) rfl); (try have c3 := hI.cell (i := 3) rfl); (try have c4 := hI.cell (i := 4) rfl); (try have c5 := hI.cell (i := 5) rfl); (try have c6 := hI.cell (i := 6) rfl); (try have c7 := hI.cell (i := 7) rfl); (try have c8 := hI.cell (i := 8) rfl); (try have c9 := hI.cell (i := 9) rfl); (try have c10 := hI.cell (i := 10) rfl); (try have c11 := hI.cell (i := 11) rfl); skip) | (refine listI rfl fun K hK => wpI_storeW _ _ _ rfl hI rfl 1 rfl rfl rfl (by kernel_rfl) (by simp [Value.oneCell']) fun w' hI' => hK _ _ ?_; clear hK K; (try replace HM1 := Lib.hid (HM1.out.grow hb)); (try replace HM2 := Lib.hid (HM2.out.grow hb)); (try replace HM3 := Lib.hid (HM3.out.grow hb)); (try replace HM4 := Lib.hid (HM4.out.grow hb)); (try clear hb); clear hI; have hI := hI'; clear hI'; (try simp only [List.cons_append, List.nil_append, List.set_cons_zero, List.set_cons_succ, List.setIfInBounds_toArray, Act.put, Act.eval, Array.getD_eq_getD_getElem?, List.getElem?_toArray, List.getElem?_cons_zero, List.getElem?_cons_succ, Option.getD_some] at hI); (try clear c0); (try clear c1); (try clear c2); (try clear c3); (try clear c4); (try clear c5); (try clear c6); (try clear c7); (try clear c8); (try clear c9); (try clear c10); (try clear c11); (try have c0 := hI.cell (i := 0) rfl); (try have c1 := hI.cell (i := 1) rfl); (try have c2 := hI.cell (i := 2) rfl); (try have c3 := hI.cell (i := 3) rfl); (try have c4 := hI.cell (i := 4) rfl); (try have c5 := hI.cell (i := 5) rfl); (try have c6 := hI.cell (i := 6) rfl); (try have c7 := hI.cell (i := 7) rfl); (try have c8 := hI.cell (i := 8) rfl); (try have c9 := hI.cell (i := 9) rfl); (try have c10 := hI.cell (i := 10) rfl); (try have c11 := hI.cell (i := 11) rfl); skip) | (refine listI rfl fun K hK => wpI_storeW _ _ _ rfl hI rfl 3 rfl rfl rfl (by kernel_rfl) (by simp [Value.oneCell']) fun w' hI' => hK _ _ ?_; clear hK K; (try replace HM1 := Lib.hid (HM1.out.grow hb)); (try replace HM2 := Lib.hid (HM2.out.grow hb)); (try replace HM3 := Lib.hid (HM3.out.grow hb)); (try replace HM4 := Lib.hid (HM4.out.grow hb)); (try clear hb); clear hI; have hI := hI'; clear hI'; (try simp only [List.cons_append, List.nil_append, List.set_cons_zero, List.set_cons_succ, List.setIfInBounds_toArray, Act.put, Act.eval, Array.getD_eq_getD_getElem?, List.getElem?_toArray, List.getElem?_cons_zero, List.getElem?_cons_succ, Option.getD_some] at hI); (try clear c0); (try clear c1); (try clear c2); (try clear c3); (try clear c4); (try clear c5); (try clear c6); (try clear c7); (try clear c8); (try clear c9); (try clear c10); (try clear c11); (try have c0 := hI.cell (i := 0) rfl); (try have c1 := hI.cell (i := 1) rfl); (try have c2 := hI.cell (i := 2) rfl); (try have c3 := hI.cell (i := 3) rfl); (try have c4 := hI.cell (i := 4) rfl); (try have c5 := hI.cell (i := 5) rfl); (try have c6 := hI.cell (i := 6) rfl); (try have c7 := hI.cell (i := 7) rfl); (try have c8 := hI.cell (i := 8) rfl); (try have c9 := hI.cell (i := 9) rfl); (try have c10 := hI.cell (i := 10) rfl); (try have c11 := hI.cell (i := 11) rfl); skip) | (go_at_call 44; (with_reducible refine (H1.out _ (hI.lies hL)).mono ?_); rintro e w' ⟨A1, A1k, rfl, hO, -, hb⟩; have hI' := hI.ownrow hb hO; clear hO; (try replace HM1 := Lib.hid (HM1.out.grow hb)); (try replace HM2 := Lib.hid (HM2.out.grow hb)); (try replace HM3 := Lib.hid (HM3.out.grow hb)); (try replace HM4 := Lib.hid (HM4.out.grow hb)); (try clear hb); clear hI; have hI := hI'; clear hI'; (try simp only [List.cons_append, List.nil_append, List.set_cons_zero, List.set_cons_succ, List.setIfInBounds_toArray, Act.put, Act.eval, Array.getD_eq_getD_getElem?, List.getElem?_toArray, List.getElem?_cons_zero, List.getElem?_cons_succ, Option.getD_some] at hI); (try clear c0); (try clear c1); (try clear c2); (try clear c3); (try clear c4); (try clear c5); (try clear c6); (try clear c7); (try clear c8); (try clear c9); (try clear c10); (try clear c11); (try have c0 := hI.cell (i := 0) rfl); (try have c1 := hI.cell (i := 1) rfl); (try have c2 := hI.cell (i := 2) rfl); (try have c3 := hI.cell (i := 3) rfl); (try have c4 := hI.cell (i := 4) rfl); (try have c5 := hI.cell (i := 5) rfl); (try have c6 := hI.cell (i := 6) rfl); (try have c7 := hI.cell (i := 7) rfl); (try have c8 := hI.cell (i := 8) rfl); (try have c9 := hI.cell (i := 9) rfl); (try have c10 := hI.cell (i := 10) rfl); (try have c11 := hI.cell (i := 11) rfl); skip) | (go_at_call 45; (with_reducible refine (H2.out _ (hI.lies hL)).mono ?_); rintro e w' ⟨A2, A2k, rfl, hO, -, hb⟩; have hI' := hI.ownrow hb hO; clear hO; (try replace HM1 := Lib.hid (HM1.out.grow hb)); (try replace HM2 := Lib.hid (HM2.out.grow hb)); (try replace HM3 := Lib.hid (HM3.out.grow hb)); (try replace HM4 := Lib.hid (HM4.out.grow hb)); (try clear hb); clear hI; have hI := hI'; clear hI'; (try simp only [List.cons_append, List.nil_append, List.set_cons_zero, List.set_cons_succ, List.setIfInBounds_toArray, Act.put, Act.eval, Array.getD_eq_getD_getElem?, List.getElem?_toArray, List.getElem?_cons_zero, List.getElem?_cons_succ, Option.getD_some] at hI); (try clear c0); (try clear c1); (try clear c2); (try clear c3); (try clear c4); (try clear c5); (try clear c6); (try clear c7); (try clear c8); (try clear c9); (try clear c10); (try clear c11); (try have c0 := hI.cell (i := 0) rfl); (try have c1 := hI.cell (i := 1) rfl); (try have c2 := hI.cell (i := 2) rfl); (try have c3 := hI.cell (i := 3) rfl); (try have c4 := hI.cell (i := 4) rfl); (try have c5 := hI.cell (i := 5) rfl); (try have c6 := hI.cell (i := 6) rfl); (try have c7 := hI.cell (i := 7) rfl); (try have c8 := hI.cell (i := 8) rfl); (try have c9 := hI.cell (i := 9) rfl); (try have c10 := hI.cell (i := 10) rfl); (try have c11 := hI.cell (i := 11) rfl); skip) | (go_at_call 19; (with_reducible refine (r_EqP A1 A2 A1k A2k ys ys _ hys ((hI.own0 (enc := encP) (xs := ys) (size := 3) (i := 0) rfl).liesB (fun _ => rfl) rfl) ((hI.own0 (enc := encP) (xs := ys) (size := 3) (i := 2) rfl).liesB (fun _ => rfl) rfl)).mono ?_); intro e w' hr; obtain ⟨rfl, hb⟩ := hr; have hI' := hI.on hb; (try replace HM1 := Lib.hid (HM1.out.grow hb)); (try replace HM2 := Lib.hid (HM2.out.grow hb)); (try replace HM3 := Lib.hid (HM3.out.grow hb)); (try replace HM4 := Lib.hid (HM4.out.grow hb)); (try clear hb); clear hI; have hI := hI'; clear hI'; (try simp only [List.cons_append, List.nil_append, List.set_cons_zero, List.set_cons_succ, List.setIfInBounds_toArray, Act.put, Act.eval, Array.getD_eq_getD_getElem?, List.getElem?_toArray, List.getElem?_cons_zero, List.getElem?_cons_succ, Option.getD_some] at hI); (try clear c0); (try clear c1); (try clear c2); (try clear c3); (try clear c4); (try clear c5); (try clear c6); (try clear c7); (try clear c8); (try clear c9); (try clear c10); (try clear c11); (try have c0 := hI.cell (i := 0) rfl); (try have c1 := hI.cell (i := 1) rfl); (try have c2 := hI.cell (i := 2) rfl); (try have c3 := hI.cell (i := 3) rfl); (try have c4 := hI.cell (i := 4) rfl); (try have c5 := hI.cell (i := 5) rfl); (try have c6 := hI.cell (i := 6) rfl); (try have c7 := hI.cell (i := 7) rfl); (try have c8 := hI.cell (i := 8) rfl); (try have c9 := hI.cell (i := 9) rfl); (try have c10 := hI.cell (i := 10) rfl); (try have c11 := hI.cell (i := 11) rfl); skip) | fail)
  go_returns
  exact Ret.bool (by simp) hI.below
theorem heapGives_open {H : Type} (enc : TypeId × Value → H) (W : World) (base : Nat) (args : Array Value) (ds : List (DataW H)) (ps : List MemPlace)
    (hval : ∀ (j : Nat) t v, Try.f14.params[j]? = some t → args[j]? = some v → Value.okWide Try.prog W .any base t v)
    (hA : DataW.TrodAll enc Try.prog W 0 (fun _ => true) true Try.f14.params.toList args.toList ds ps) (hlt : ∀ x ∈ ps, x.block < W.heap.size)
    (hsz : (DataW.weightsEach Try.prog Try.f14.params.toList ds).all (· ≤ reachBytes) = true) :
    Calls Try.prog 14 args W fun e W' => e = .returned (.bool true) ∧ Below W.heap.size W W' := by
  rw [Try.params14] at hA hval
  obtain ⟨v0, v1, d0, d1, p0, p1, hargs, rfl, rfl, h0, h1⟩ := trodAll_two hA
  subst hargs
  obtain ⟨A, c, xs, rfl, _, _, hwf, hL⟩ := open_rows (α := Piece) (enc := encP) (Wf := Piece.Wf) (size := 3) Try.underlying26 cells_piece (by decide) trod_piece (fun k => rfl) (hval 0 _ v0 rfl rfl) h0
  obtain ⟨b, rfl, _, _, wb⟩ := open_int Try.underlying3 (hval 1 _ v1 rfl rfl) h1
  exact (heapGives_walk A c xs b W hL).mono fun e W' hr => hr
set_option maxRecDepth 100000 in
theorem heapGives_lifted (os : Os) (started : os.Started) (H : Type) (enc : TypeId × Value → H) :
    ReturnsInHanded {} Try.checked os 14 .any (Rows.heapGivesSpec.pre6 enc Try.prog Try.f14 [] false) (Rows.heapGivesSpec.post enc Try.prog Try.f14 false true false false) :=
  lifted (C := Try.checked) (s := Rows.heapGivesSpec) (by kernel_rfl) started (by kernel_rfl) Try.func14
    (ChangeSpec.witness6 (enc := enc) (C := Try.checked) false ⟨#[], #[.slice none 0 0, .int .i64 0], []⟩ 12 (by kernel_rfl) (by kernel_rfl) (by kernel_rfl) (by kernel_rfl))
    (by kernel_rfl) (by kernel_rfl) rfl rfl Try.underlying4
    (fun ds h => by match ds, h with | [_, _], _ => exact ⟨rfl, rfl, rfl⟩)
    (fun W base args ds ps hval hA hlt hsz => heapGives_open enc W base args ds ps hval hA hlt hsz)
theorem heapGives_holds : Rows.HeapGivesSaid :=
  OpenClaim.holds_of_wide 14 Try.f14 rfl rfl rfl rfl rfl rfl rfl ⟨rfl, rfl, rfl, rfl, rfl⟩ rfl rfl rfl rfl rfl (by kernel_rfl) Try.func14 (by kernel_rfl)
    (of_decide_eq_true (by kernel_rfl)) (by unfold Func.isWrapper; first | (rw [if_pos (by decide +kernel)]; kernel_rfl) | (rw [if_neg (by decide +kernel)]; exact ⟨rfl, rfl⟩))
    (fun os started H enc _ => heapGives_lifted os started H enc)
#print axioms heapGives_holds
end Go.Proofs.Ytmalaomcolgfcaa
