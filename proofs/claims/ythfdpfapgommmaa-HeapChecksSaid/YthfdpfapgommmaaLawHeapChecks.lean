/- The law HeapChecks: Check returns what the reference returns, for all arguments. Conditions: none. -/
import Derived.Test.YthfdpfapgommmaaHeap
import Derived.Test.YthfdpfapgommmaaLaw

namespace Go.Proofs.Ythfdpfapgommmaa
open Go.ChangeShapes Go.WideShapes Go.ChangeAt Go.RowKit
set_option linter.unusedVariables false
set_option linter.unusedSimpArgs false

theorem lies_piece0 (w : World) : Lies encP 3 (w.alloc (.cells #[.int .i64 0, .int .i64 0, .int .i64 0] 52)) (w.alloc (.cells #[.int .i64 0, .int .i64 0, .int .i64 0] 52)).heap.size (some ⟨w.heap.size, 0, none⟩) [⟨0, 0, 0⟩] :=
  Lies.single w _ _ _ fun j hj => by simp [encP]
theorem c_heap_Check0 (w : World) : Calls Try.prog 35 #[.slice (some ⟨w.heap.size, 0, none⟩) 1 1] (w.alloc (.cells #[.int .i64 0, .int .i64 0, .int .i64 0] 52)) (Ret (.int .i64 1) (w.alloc (.cells #[.int .i64 0, .int .i64 0, .int .i64 0] 52))) :=
  c_heap_Check (some ⟨w.heap.size, 0, none⟩) 1 [⟨0, 0, 0⟩] _ (lies_piece0 w)
theorem heapChecks_walk (A : Option Addr) (c : Nat) (xs : List Piece) (w : World) (hL : Lies encP 3 w w.heap.size A xs) :
    Calls Try.prog 9 #[.slice A xs.length c] w (Ret (.bool true) w) := by
  go_enter Try.func9, Try.ntmps9
  go_wp2_with (first | (go_at_call 35; (with_reducible refine (c_heap_Check A c xs w hL).mono ?_); intro e w1 hr; obtain ⟨rfl, hb, hc, hf, hz⟩ := hr.use; (try simp only [World.size_alloc, World.size_setCell, World.size_drew] at hz); clear hr) | (go_at_call 36; (with_reducible refine (r_HeapCheck A c xs w1 ((hL.below hb).more hb.size)).mono ?_); intro e w2 hr; obtain ⟨rfl, hb, hc, hf, hz⟩ := hr.use; (try simp only [World.size_alloc, World.size_setCell, World.size_drew] at hz); clear hr) | (go_at_call 35; (with_reducible refine (c_heap_Check0 _).mono ?_); intro e w3 hr; obtain ⟨rfl, hb, hc, hf, hz⟩ := hr.use; (try simp only [World.size_alloc, World.size_setCell, World.size_drew] at hz); clear hr))
  go_returns
  exact Ret.bool rfl (by (repeat' (first | (with_reducible exact Below.refl _ _) | (with_reducible assumption) | (with_reducible refine Below.alloc ?_ ?_ _) | (with_reducible refine Below.drew ?_) | (with_reducible refine Below.setCell ?_ ?_ _) | (refine Below.trans ?_ (Below.mono (by with_reducible assumption) ?_)) | go_size)))
theorem heapChecks_open {H : Type} (enc : TypeId × Value → H) (W : World) (base : Nat) (args : Array Value) (ds : List (DataW H)) (ps : List MemPlace)
    (hval : ∀ (j : Nat) t v, Try.f9.params[j]? = some t → args[j]? = some v → Value.okWide Try.prog W .any base t v)
    (hA : DataW.TrodAll enc Try.prog W 0 (fun _ => true) true Try.f9.params.toList args.toList ds ps) (hlt : ∀ x ∈ ps, x.block < W.heap.size)
    (hsz : (DataW.weightsEach Try.prog Try.f9.params.toList ds).all (· ≤ reachBytes) = true) :
    Calls Try.prog 9 args W fun e W' => e = .returned (.bool true) ∧ Below W.heap.size W W' := by
  rw [Try.params9] at hA hval
  obtain ⟨v0, d0, rfl, rfl, h0⟩ := trodAll_one hA
  obtain ⟨A, c, xs, rfl, _, _, hwf, hL⟩ := open_rows (α := Piece) (enc := encP) (Wf := Piece.Wf) (size := 3) Try.underlying49 cells_piece (by decide) trod_piece (fun k => rfl) (hval 0 _ v0 rfl rfl) h0
  exact (heapChecks_walk A c xs W hL).mono fun e W' hr => hr
set_option maxRecDepth 100000 in
theorem heapChecks_lifted (os : Os) (started : os.Started) (H : Type) (enc : TypeId × Value → H) :
    ReturnsInHanded {} Try.checked os 9 .any (Rows.heapChecksSpec.pre6 enc Try.prog Try.f9 [] false) (Rows.heapChecksSpec.post enc Try.prog Try.f9 false true false false) :=
  lifted (C := Try.checked) (s := Rows.heapChecksSpec) (by kernel_rfl) started (by kernel_rfl) Try.func9
    (ChangeSpec.witness6 (enc := enc) (C := Try.checked) false ⟨#[], #[.slice none 0 0], []⟩ 12 (by kernel_rfl) (by kernel_rfl) (by kernel_rfl) (by kernel_rfl))
    (by kernel_rfl) (by kernel_rfl) rfl rfl Try.underlying4
    (fun ds h => by match ds, h with | [_], _ => exact ⟨rfl, rfl, rfl⟩)
    (fun W base args ds ps hval hA hlt hsz => heapChecks_open enc W base args ds ps hval hA hlt hsz)
theorem heapChecks_holds : Rows.HeapChecksSaid :=
  OpenClaim.holds_of_wide 9 Try.f9 rfl rfl rfl rfl rfl rfl rfl ⟨rfl, rfl, rfl, rfl, rfl⟩ rfl rfl rfl rfl rfl (by kernel_rfl) Try.func9 (by kernel_rfl)
    (of_decide_eq_true (by kernel_rfl)) (by unfold Func.isWrapper; first | (rw [if_pos (by decide +kernel)]; kernel_rfl) | (rw [if_neg (by decide +kernel)]; exact ⟨rfl, rfl⟩))
    (fun os started H enc _ => heapChecks_lifted os started H enc)
#print axioms heapChecks_holds
end Go.Proofs.Ythfdpfapgommmaa
