/- The law HeapBacks: Back returns what the reference returns, for all arguments. Conditions: none. -/
import Derived.Test.YtmalaomcolgfcaaHeapOps
import Derived.Test.YtmalaomcolgfcaaLaw

namespace Go.Proofs.Ytmalaomcolgfcaa
open Go.ChangeShapes Go.WideShapes Go.ChangeAt Go.RowKit
set_option linter.unusedVariables false
set_option linter.unusedSimpArgs false

theorem heapBack_len (l : List Piece) (b : Int) : (heapBack l b).1.length ≤ 30 := by
  by_cases h : heapE l = 0
  · rcases idxFrom_cases (backQ b) l 0 with hi | ⟨i, hi⟩
    · rw [heapBack_none h hi]; simp
    · obtain ⟨hlt, x, hx, _⟩ := idxFrom_lt hi
      rw [heapBack_some h hi hx]
      have := heapE_len h
      simpa using this
  · rw [heapBack_no h]; simp
set_option maxHeartbeats 1000000 in
theorem heapBacks_walk (A : Option Addr) (c : Nat) (xs : List Piece) (b : Int) (w : World) (hL : Lies encP 3 w w.heap.size A xs) :
    Calls Try.prog 8 #[.slice A xs.length c, .int .i64 b] w (Ret (.bool true) w) := by
  have hlen := heapBack_len xs b
  have h1 := c_heap_Back A c xs b
  have h2 := r_HeapBack A c xs b
  generalize heapBack xs b = r at hlen h1 h2
  obtain ⟨ys, err⟩ := r
  have H1 := Lib.hid h1
  have H2 := Lib.hid h2
  clear h1 h2
  go_enter Try.func8, Try.ntmps8
  go_wp2_with (first | (go_at_call 30; (with_reducible refine (H1.out w hL).mono ?_); rintro e w1 ⟨A1, c1, rfl, hO1, hL1, hb1⟩; have hz1 := hb1.size; clear hO1) | (go_at_call 31; (with_reducible refine (H2.out w1 ((hL.below hb1).more hz1)).mono ?_); rintro e w2 ⟨A2, c2, rfl, hO2, hL2, hb2⟩; have hz2 := hb2.size; clear hO2) | (go_at_call 19; (with_reducible refine (r_EqP A1 A2 c1 c2 ys ys w2 (by omega) ((hL1.below hb2).more hz2) hL2).mono ?_); intro e w3 hr; obtain ⟨rfl, hb, hc, hf, hz⟩ := hr.use; (try simp only [World.size_alloc, World.size_setCell, World.size_drew] at hz); clear hr))
  go_returns
  exact Ret.bool (by simp) (by (repeat' (first | (with_reducible exact Below.refl _ _) | (with_reducible assumption) | (with_reducible refine Below.alloc ?_ ?_ _) | (with_reducible refine Below.drew ?_) | (with_reducible refine Below.setCell ?_ ?_ _) | (refine Below.trans ?_ (Below.mono (by with_reducible assumption) ?_)) | go_size)))
theorem heapBacks_open {H : Type} (enc : TypeId × Value → H) (W : World) (base : Nat) (args : Array Value) (ds : List (DataW H)) (ps : List MemPlace)
    (hval : ∀ (j : Nat) t v, Try.f8.params[j]? = some t → args[j]? = some v → Value.okWide Try.prog W .any base t v)
    (hA : DataW.TrodAll enc Try.prog W 0 (fun _ => true) true Try.f8.params.toList args.toList ds ps) (hlt : ∀ x ∈ ps, x.block < W.heap.size)
    (hsz : (DataW.weightsEach Try.prog Try.f8.params.toList ds).all (· ≤ reachBytes) = true) :
    Calls Try.prog 8 args W fun e W' => e = .returned (.bool true) ∧ Below W.heap.size W W' := by
  rw [Try.params8] at hA hval
  obtain ⟨v0, v1, d0, d1, p0, p1, hargs, rfl, rfl, h0, h1⟩ := trodAll_two hA
  subst hargs
  obtain ⟨A, c, xs, rfl, _, _, hwf, hL⟩ := open_rows (α := Piece) (enc := encP) (Wf := Piece.Wf) (size := 3) Try.underlying26 cells_piece (by decide) trod_piece (fun k => rfl) (hval 0 _ v0 rfl rfl) h0
  obtain ⟨b, rfl, _, _, wb⟩ := open_int Try.underlying3 (hval 1 _ v1 rfl rfl) h1
  exact (heapBacks_walk A c xs b W hL).mono fun e W' hr => hr
set_option maxRecDepth 100000 in
theorem heapBacks_lifted (os : Os) (started : os.Started) (H : Type) (enc : TypeId × Value → H) :
    ReturnsInHanded {} Try.checked os 8 .any (Rows.heapBacksSpec.pre6 enc Try.prog Try.f8 [] false) (Rows.heapBacksSpec.post enc Try.prog Try.f8 false true false false) :=
  lifted (C := Try.checked) (s := Rows.heapBacksSpec) (by kernel_rfl) started (by kernel_rfl) Try.func8
    (ChangeSpec.witness6 (enc := enc) (C := Try.checked) false ⟨#[], #[.slice none 0 0, .int .i64 0], []⟩ 12 (by kernel_rfl) (by kernel_rfl) (by kernel_rfl) (by kernel_rfl))
    (by kernel_rfl) (by kernel_rfl) rfl rfl Try.underlying4
    (fun ds h => by match ds, h with | [_, _], _ => exact ⟨rfl, rfl, rfl⟩)
    (fun W base args ds ps hval hA hlt hsz => heapBacks_open enc W base args ds ps hval hA hlt hsz)
theorem heapBacks_holds : Rows.HeapBacksSaid :=
  OpenClaim.holds_of_wide 8 Try.f8 rfl rfl rfl rfl rfl rfl rfl ⟨rfl, rfl, rfl, rfl, rfl⟩ rfl rfl rfl rfl rfl (by kernel_rfl) Try.func8 (by kernel_rfl)
    (of_decide_eq_true (by kernel_rfl)) (by unfold Func.isWrapper; first | (rw [if_pos (by decide +kernel)]; kernel_rfl) | (rw [if_neg (by decide +kernel)]; exact ⟨rfl, rfl⟩))
    (fun os started H enc _ => heapBacks_lifted os started H enc)
#print axioms heapBacks_holds
end Go.Proofs.Ytmalaomcolgfcaa
