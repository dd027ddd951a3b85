/- The law HeapCleans: Clean returns what the reference returns, for all arguments. Conditions: none. -/
import Derived.Test.YtmalaomcolgfcaaHeapCleanR
import Derived.Test.YtmalaomcolgfcaaLaw

namespace Go.Proofs.Ytmalaomcolgfcaa
open Go.ChangeShapes Go.WideShapes Go.ChangeAt Go.RowKit
set_option linter.unusedVariables false
set_option linter.unusedSimpArgs false

theorem heapClean_len (l : List Piece) : (heapClean l).1.length ≤ 30 := by
  unfold heapClean
  split
  · rename_i h
    have := cleanL_length l l.length
    have := heapE_len h
    show (cleanL l l.length).length ≤ 30
    omega
  · simp
theorem lies_piece0 (w : World) : Lies encP 3 (w.alloc (.cells #[.int .i64 0, .int .i64 0, .int .i64 0] 31)) (w.alloc (.cells #[.int .i64 0, .int .i64 0, .int .i64 0] 31)).heap.size (some ⟨w.heap.size, 0, none⟩) [⟨0, 0, 0⟩] :=
  Lies.single w _ _ _ fun j hj => by simp [encP]
theorem c_heap_Check0 (w : World) : Calls Try.prog 20 #[.slice (some ⟨w.heap.size, 0, none⟩) 1 1] (w.alloc (.cells #[.int .i64 0, .int .i64 0, .int .i64 0] 31)) (Ret (.int .i64 1) (w.alloc (.cells #[.int .i64 0, .int .i64 0, .int .i64 0] 31))) :=
  c_heap_Check (some ⟨w.heap.size, 0, none⟩) 1 [⟨0, 0, 0⟩] _ (lies_piece0 w)
set_option maxHeartbeats 1000000 in
theorem heapCleans_walk (A : Option Addr) (c : Nat) (xs : List Piece) (w : World) (hL : Lies encP 3 w w.heap.size A xs) :
    Calls Try.prog 4 #[.slice A xs.length c] w (Ret (.bool true) w) := by
  have hlen := heapClean_len xs
  have h1 := c_heap_Clean A c xs
  have h2 := r_HeapClean A c xs
  generalize heapClean xs = r at hlen h1 h2
  obtain ⟨ys, err⟩ := r
  have H1 := Lib.hid h1
  have H2 := Lib.hid h2
  clear h1 h2
  go_enter Try.func4, Try.ntmps4
  go_wp2_with (first | (go_at_call 17; (with_reducible refine (H1.out w hL).mono ?_); rintro e w1 ⟨A1, c1, rfl, hO1, hL1, hb1⟩; have hz1 := hb1.size; clear hO1) | (go_at_call 18; (with_reducible refine (H2.out w1 ((hL.below hb1).more hz1)).mono ?_); rintro e w2 ⟨A2, c2, rfl, hO2, hL2, hb2⟩; have hz2 := hb2.size; clear hO2) | (go_at_call 19; (with_reducible refine (r_EqP A1 A2 c1 c2 ys ys w2 (by omega) ((hL1.below hb2).more hz2) hL2).mono ?_); intro e w3 hr; obtain ⟨rfl, hb, hc, hf, hz⟩ := hr.use; (try simp only [World.size_alloc, World.size_setCell, World.size_drew] at hz); clear hr) | (go_at_call 20; (with_reducible refine (c_heap_Check0 _).mono ?_); intro e w4 hr; obtain ⟨rfl, hb, hc, hf, hz⟩ := hr.use; (try simp only [World.size_alloc, World.size_setCell, World.size_drew] at hz); clear hr))
  go_returns
  exact Ret.bool (by simp) (by (repeat' (first | (with_reducible exact Below.refl _ _) | (with_reducible assumption) | (with_reducible refine Below.alloc ?_ ?_ _) | (with_reducible refine Below.drew ?_) | (with_reducible refine Below.setCell ?_ ?_ _) | (refine Below.trans ?_ (Below.mono (by with_reducible assumption) ?_)) | go_size)))
theorem heapCleans_open {H : Type} (enc : TypeId × Value → H) (W : World) (base : Nat) (args : Array Value) (ds : List (DataW H)) (ps : List MemPlace)
    (hval : ∀ (j : Nat) t v, Try.f4.params[j]? = some t → args[j]? = some v → Value.okWide Try.prog W .any base t v)
    (hA : DataW.TrodAll enc Try.prog W 0 (fun _ => true) true Try.f4.params.toList args.toList ds ps) (hlt : ∀ x ∈ ps, x.block < W.heap.size)
    (hsz : (DataW.weightsEach Try.prog Try.f4.params.toList ds).all (· ≤ reachBytes) = true) :
    Calls Try.prog 4 args W fun e W' => e = .returned (.bool true) ∧ Below W.heap.size W W' := by
  rw [Try.params4] at hA hval
  obtain ⟨v0, d0, rfl, rfl, h0⟩ := trodAll_one hA
  obtain ⟨A, c, xs, rfl, _, _, hwf, hL⟩ := open_rows (α := Piece) (enc := encP) (Wf := Piece.Wf) (size := 3) Try.underlying26 cells_piece (by decide) trod_piece (fun k => rfl) (hval 0 _ v0 rfl rfl) h0
  exact (heapCleans_walk A c xs W hL).mono fun e W' hr => hr
set_option maxRecDepth 100000 in
theorem heapCleans_lifted (os : Os) (started : os.Started) (H : Type) (enc : TypeId × Value → H) :
    ReturnsInHanded {} Try.checked os 4 .any (Rows.heapCleansSpec.pre6 enc Try.prog Try.f4 [] false) (Rows.heapCleansSpec.post enc Try.prog Try.f4 false true false false) :=
  lifted (C := Try.checked) (s := Rows.heapCleansSpec) (by kernel_rfl) started (by kernel_rfl) Try.func4
    (ChangeSpec.witness6 (enc := enc) (C := Try.checked) false ⟨#[], #[.slice none 0 0], []⟩ 12 (by kernel_rfl) (by kernel_rfl) (by kernel_rfl) (by kernel_rfl))
    (by kernel_rfl) (by kernel_rfl) rfl rfl Try.underlying4
    (fun ds h => by match ds, h with | [_], _ => exact ⟨rfl, rfl, rfl⟩)
    (fun W base args ds ps hval hA hlt hsz => heapCleans_open enc W base args ds ps hval hA hlt hsz)
theorem heapCleans_holds : Rows.HeapCleansSaid :=
  OpenClaim.holds_of_wide 4 Try.f4 rfl rfl rfl rfl rfl rfl rfl ⟨rfl, rfl, rfl, rfl, rfl⟩ rfl rfl rfl rfl rfl (by kernel_rfl) Try.func4 (by kernel_rfl)
    (of_decide_eq_true (by kernel_rfl)) (by unfold Func.isWrapper; first | (rw [if_pos (by decide +kernel)]; kernel_rfl) | (rw [if_neg (by decide +kernel)]; exact ⟨rfl, rfl⟩))
    (fun os started H enc _ => heapCleans_lifted os started H enc)
#print axioms heapCleans_holds
end Go.Proofs.Ytmalaomcolgfcaa
