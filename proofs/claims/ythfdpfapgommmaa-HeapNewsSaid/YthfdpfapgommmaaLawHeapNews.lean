/- The law HeapNews: Check and New return what the reference returns, for all arguments. Conditions: none. -/
import Derived.Test.YthfdpfapgommmaaEqP
import Derived.Test.YthfdpfapgommmaaLaw

namespace Go.Proofs.Ythfdpfapgommmaa
open Go.ChangeShapes Go.WideShapes Go.ChangeAt Go.RowKit
set_option linter.unusedVariables false
set_option linter.unusedSimpArgs false

theorem lies_piece1 (b n s : Int) (w : World) : Lies encP 3 (w.alloc (.cells #[.int .i64 b, .int .i64 n, .int .i64 s] 52)) (w.alloc (.cells #[.int .i64 b, .int .i64 n, .int .i64 s] 52)).heap.size (some ⟨w.heap.size, 0, none⟩) [⟨b, n, s⟩] :=
  Lies.single w _ _ _ fun j hj => by simp [encP]
theorem c_heap_Check1 (w : World) : Calls Try.prog 35 #[.slice (some ⟨w.heap.size, 0, none⟩) 1 1] (w.alloc (.cells #[.int .i64 0, .int .i64 0, .int .i64 0] 52)) (Ret (.int .i64 1) (w.alloc (.cells #[.int .i64 0, .int .i64 0, .int .i64 0] 52))) :=
  c_heap_Check (some ⟨w.heap.size, 0, none⟩) 1 [⟨0, 0, 0⟩] _ (lies_piece1 0 0 0 w)
theorem r_HeapCheck1 (b n : Int) (w : World) : Calls Try.prog 36 #[.slice (some ⟨w.heap.size, 0, none⟩) 1 1] (w.alloc (.cells #[.int .i64 b, .int .i64 n, .int .i64 0] 52)) (Ret (.int .i64 (heapE [⟨b, n, 0⟩])) (w.alloc (.cells #[.int .i64 b, .int .i64 n, .int .i64 0] 52))) :=
  r_HeapCheck (some ⟨w.heap.size, 0, none⟩) 1 [⟨b, n, 0⟩] _ (lies_piece1 b n 0 w)
theorem r_EqP1 (A : Option Addr) (c : Nat) (b n : Int) (w : World) (hL : Lies encP 3 w w.heap.size A [⟨b, n, 0⟩]) : Calls Try.prog 43 #[.slice A 1 c, .slice (some ⟨w.heap.size, 0, none⟩) 1 1] (w.alloc (.cells #[.int .i64 b, .int .i64 n, .int .i64 0] 52)) (Ret (.bool true) (w.alloc (.cells #[.int .i64 b, .int .i64 n, .int .i64 0] 52))) := by
  have h := r_EqP A (some ⟨w.heap.size, 0, none⟩) c 1 [⟨b, n, 0⟩] [⟨b, n, 0⟩] _ (by simp) ((hL.below (Below.alloc (Below.refl _ _) (Nat.le_refl _) _)).more (by simp [World.size_alloc])) (lies_piece1 b n 0 w)
  simpa using h
theorem c_heap_New_no (b n : Int) (w : World) (h : mayP ⟨b, n, 0⟩ = false) :
    Calls Try.prog 42 #[.int .i64 b, .int .i64 n] w (Ret (.tuple #[.slice none 0 0, .int .i64 1]) w) := by
  go_enter Try.func42, Try.ntmps42
  go_wp2_with (go_at_call 52; (with_reducible refine (c_heap_may ⟨b, n, 0⟩ _).mono ?_); intro e w1 hr; obtain ⟨rfl, hb, hc, hf, hz⟩ := hr.use; (try simp only [World.size_alloc, World.size_setCell, World.size_drew] at hz); clear hr; have c0 := fun o => hc (w.heap.size) o (by go_size); have f0 := fun o => hf (w.heap.size) o (by go_size); have z0 : w.heap.size < w1.heap.size := (by go_size); clear hc hf; simp only [go_sem, *] at c0 f0)
  go_returns
  exact Ret.mk rfl (by (repeat' (first | (with_reducible exact Below.refl _ _) | (with_reducible assumption) | (with_reducible refine Below.alloc ?_ ?_ _) | (with_reducible refine Below.drew ?_) | (with_reducible refine Below.setCell ?_ ?_ _) | (refine Below.trans ?_ (Below.mono (by with_reducible assumption) ?_)) | go_size)))
theorem c_heap_New_yes (b n : Int) (w : World) (h : mayP ⟨b, n, 0⟩ = true) :
    Calls Try.prog 42 #[.int .i64 b, .int .i64 n] w fun e w' => ∃ g, e = .returned (.tuple #[.slice (some ⟨g, 0, none⟩) 1 1, .int .i64 0]) ∧ Lies encP 3 w' w'.heap.size (some ⟨g, 0, none⟩) [⟨b, n, 0⟩] ∧ Below w.heap.size w w' := by
  go_enter Try.func42, Try.ntmps42
  go_wp2_with (go_at_call 52; (with_reducible refine (c_heap_may ⟨b, n, 0⟩ _).mono ?_); intro e w1 hr; obtain ⟨rfl, hb, hc, hf, hz⟩ := hr.use; (try simp only [World.size_alloc, World.size_setCell, World.size_drew] at hz); clear hr; have c0 := fun o => hc (w.heap.size) o (by go_size); have f0 := fun o => hf (w.heap.size) o (by go_size); have z0 : w.heap.size < w1.heap.size := (by go_size); clear hc hf; simp only [go_sem, *] at c0 f0)
  go_returns
  exact ⟨w1.heap.size, rfl, lies_piece1 b n 0 w1, by (repeat' (first | (with_reducible exact Below.refl _ _) | (with_reducible assumption) | (with_reducible refine Below.alloc ?_ ?_ _) | (with_reducible refine Below.drew ?_) | (with_reducible refine Below.setCell ?_ ?_ _) | (refine Below.trans ?_ (Below.mono (by with_reducible assumption) ?_)) | go_size))⟩
set_option maxHeartbeats 1000000 in
theorem heapNews_walk (A : Option Addr) (c : Nat) (xs : List Piece) (b n : Int) (w : World) (hL : Lies encP 3 w w.heap.size A xs) :
    Calls Try.prog 12 #[.slice A xs.length c, .int .i64 b, .int .i64 n] w (Ret (.bool true) w) := by
  cases hm : mayP ⟨b, n, 0⟩
  · have hE : heapE [⟨b, n, 0⟩] = 1 := heapFrom_no (l := [⟨b, n, 0⟩]) (k := 0) rfl hm
    have H := Lib.hid hm
    clear hm
    go_enter Try.func12, Try.ntmps12
    go_wp2_with (first | (go_at_call 42; (with_reducible refine (c_heap_New_no _ _ _ H.out).mono ?_); intro e w1 hr; obtain ⟨rfl, hb, hc, hf, hz⟩ := hr.use; (try simp only [World.size_alloc, World.size_setCell, World.size_drew] at hz); clear hr) | (go_at_call 36; (with_reducible refine (r_HeapCheck1 b n _).mono ?_); intro e w2 hr; obtain ⟨rfl, hb, hc, hf, hz⟩ := hr.use; (try simp only [World.size_alloc, World.size_setCell, World.size_drew] at hz); clear hr) | (go_at_call 35; (with_reducible refine (c_heap_Check A c xs w2 ((hL.below (by (repeat' (first | (with_reducible exact Below.refl _ _) | (with_reducible assumption) | (with_reducible refine Below.alloc ?_ ?_ _) | (with_reducible refine Below.drew ?_) | (with_reducible refine Below.setCell ?_ ?_ _) | (refine Below.trans ?_ (Below.mono (by with_reducible assumption) ?_)) | go_size)))).more (by go_size))).mono ?_); intro e w3 hr; obtain ⟨rfl, hb, hc, hf, hz⟩ := hr.use; (try simp only [World.size_alloc, World.size_setCell, World.size_drew] at hz); clear hr) | (go_at_call 36; (with_reducible refine (r_HeapCheck A c xs w3 ((hL.below (by (repeat' (first | (with_reducible exact Below.refl _ _) | (with_reducible assumption) | (with_reducible refine Below.alloc ?_ ?_ _) | (with_reducible refine Below.drew ?_) | (with_reducible refine Below.setCell ?_ ?_ _) | (refine Below.trans ?_ (Below.mono (by with_reducible assumption) ?_)) | go_size)))).more (by go_size))).mono ?_); intro e w4 hr; obtain ⟨rfl, hb, hc, hf, hz⟩ := hr.use; (try simp only [World.size_alloc, World.size_setCell, World.size_drew] at hz); clear hr) | (go_at_call 35; (with_reducible refine (c_heap_Check1 _).mono ?_); intro e w5 hr; obtain ⟨rfl, hb, hc, hf, hz⟩ := hr.use; (try simp only [World.size_alloc, World.size_setCell, World.size_drew] at hz); clear hr))
    go_returns
    exact Ret.bool rfl (by (repeat' (first | (with_reducible exact Below.refl _ _) | (with_reducible assumption) | (with_reducible refine Below.alloc ?_ ?_ _) | (with_reducible refine Below.drew ?_) | (with_reducible refine Below.setCell ?_ ?_ _) | (refine Below.trans ?_ (Below.mono (by with_reducible assumption) ?_)) | go_size)))
  · have hE : heapE [⟨b, n, 0⟩] = 0 := (heapFrom_zero (l := [⟨b, n, 0⟩]) rfl hm).trans (heapFrom_end (by simp))
    have H := Lib.hid hm
    clear hm
    go_enter Try.func12, Try.ntmps12
    go_wp2_with (first | (go_at_call 42; (with_reducible refine (c_heap_New_yes _ _ _ H.out).mono ?_); rintro e w1 ⟨g, rfl, hG, hb⟩; have hz := hb.size) | (go_at_call 36; (with_reducible refine (r_HeapCheck1 b n _).mono ?_); intro e w2 hr; obtain ⟨rfl, hb, hc, hf, hz⟩ := hr.use; (try simp only [World.size_alloc, World.size_setCell, World.size_drew] at hz); clear hr) | (go_at_call 35; (with_reducible refine (c_heap_Check A c xs w2 ((hL.below (by (repeat' (first | (with_reducible exact Below.refl _ _) | (with_reducible assumption) | (with_reducible refine Below.alloc ?_ ?_ _) | (with_reducible refine Below.drew ?_) | (with_reducible refine Below.setCell ?_ ?_ _) | (refine Below.trans ?_ (Below.mono (by with_reducible assumption) ?_)) | go_size)))).more (by go_size))).mono ?_); intro e w3 hr; obtain ⟨rfl, hb, hc, hf, hz⟩ := hr.use; (try simp only [World.size_alloc, World.size_setCell, World.size_drew] at hz); clear hr) | (go_at_call 36; (with_reducible refine (r_HeapCheck A c xs w3 ((hL.below (by (repeat' (first | (with_reducible exact Below.refl _ _) | (with_reducible assumption) | (with_reducible refine Below.alloc ?_ ?_ _) | (with_reducible refine Below.drew ?_) | (with_reducible refine Below.setCell ?_ ?_ _) | (refine Below.trans ?_ (Below.mono (by with_reducible assumption) ?_)) | go_size)))).more (by go_size))).mono ?_); intro e w4 hr; obtain ⟨rfl, hb, hc, hf, hz⟩ := hr.use; (try simp only [World.size_alloc, World.size_setCell, World.size_drew] at hz); clear hr) | (go_at_call 35; (with_reducible refine (c_heap_Check1 _).mono ?_); intro e w5 hr; obtain ⟨rfl, hb, hc, hf, hz⟩ := hr.use; (try simp only [World.size_alloc, World.size_setCell, World.size_drew] at hz); clear hr) | (go_at_call 43; (with_reducible refine (r_EqP1 _ _ b n w5 ((hG.below (by (repeat' (first | (with_reducible exact Below.refl _ _) | (with_reducible assumption) | (with_reducible refine Below.alloc ?_ ?_ _) | (with_reducible refine Below.drew ?_) | (with_reducible refine Below.setCell ?_ ?_ _) | (refine Below.trans ?_ (Below.mono (by with_reducible assumption) ?_)) | go_size)))).more (by go_size))).mono ?_); intro e w6 hr; obtain ⟨rfl, hb, hc, hf, hz⟩ := hr.use; (try simp only [World.size_alloc, World.size_setCell, World.size_drew] at hz); clear hr))
    go_returns
    exact Ret.bool rfl (by (repeat' (first | (with_reducible exact Below.refl _ _) | (with_reducible assumption) | (with_reducible refine Below.alloc ?_ ?_ _) | (with_reducible refine Below.drew ?_) | (with_reducible refine Below.setCell ?_ ?_ _) | (refine Below.trans ?_ (Below.mono (by with_reducible assumption) ?_)) | go_size)))
theorem heapNews_open {H : Type} (enc : TypeId × Value → H) (W : World) (base : Nat) (args : Array Value) (ds : List (DataW H)) (ps : List MemPlace)
    (hval : ∀ (j : Nat) t v, Try.f12.params[j]? = some t → args[j]? = some v → Value.okWide Try.prog W .any base t v)
    (hA : DataW.TrodAll enc Try.prog W 0 (fun _ => true) true Try.f12.params.toList args.toList ds ps) (hlt : ∀ x ∈ ps, x.block < W.heap.size)
    (hsz : (DataW.weightsEach Try.prog Try.f12.params.toList ds).all (· ≤ reachBytes) = true) :
    Calls Try.prog 12 args W fun e W' => e = .returned (.bool true) ∧ Below W.heap.size W W' := by
  rw [Try.params12] at hA hval
  obtain ⟨v0, v1, v2, d0, d1, d2, p0, p1, p2, hargs, rfl, rfl, h0, h1, h2⟩ := trodAll_three hA
  subst hargs
  obtain ⟨A, c, xs, rfl, _, _, hwf, hL⟩ := open_rows (α := Piece) (enc := encP) (Wf := Piece.Wf) (size := 3) Try.underlying49 cells_piece (by decide) trod_piece (fun k => rfl) (hval 0 _ v0 rfl rfl) h0
  obtain ⟨b, rfl, _, _, wb⟩ := open_int Try.underlying3 (hval 1 _ v1 rfl rfl) h1
  obtain ⟨n, rfl, _, _, wn⟩ := open_int Try.underlying3 (hval 2 _ v2 rfl rfl) h2
  exact (heapNews_walk A c xs b n W hL).mono fun e W' hr => hr
set_option maxRecDepth 100000 in
theorem heapNews_lifted (os : Os) (started : os.Started) (H : Type) (enc : TypeId × Value → H) :
    ReturnsInHanded {} Try.checked os 12 .any (Rows.heapNewsSpec.pre6 enc Try.prog Try.f12 [] false) (Rows.heapNewsSpec.post enc Try.prog Try.f12 false true false false) :=
  lifted (C := Try.checked) (s := Rows.heapNewsSpec) (by kernel_rfl) started (by kernel_rfl) Try.func12
    (ChangeSpec.witness6 (enc := enc) (C := Try.checked) false ⟨#[], #[.slice none 0 0, .int .i64 0, .int .i64 0], []⟩ 12 (by kernel_rfl) (by kernel_rfl) (by kernel_rfl) (by kernel_rfl))
    (by kernel_rfl) (by kernel_rfl) rfl rfl Try.underlying4
    (fun ds h => by match ds, h with | [_, _, _], _ => exact ⟨rfl, rfl, rfl⟩)
    (fun W base args ds ps hval hA hlt hsz => heapNews_open enc W base args ds ps hval hA hlt hsz)
theorem heapNews_holds : Rows.HeapNewsSaid :=
  OpenClaim.holds_of_wide 12 Try.f12 rfl rfl rfl rfl rfl rfl rfl ⟨rfl, rfl, rfl, rfl, rfl⟩ rfl rfl rfl rfl rfl (by kernel_rfl) Try.func12 (by kernel_rfl)
    (of_decide_eq_true (by kernel_rfl)) (by unfold Func.isWrapper; first | (rw [if_pos (by decide +kernel)]; kernel_rfl) | (rw [if_neg (by decide +kernel)]; exact ⟨rfl, rfl⟩))
    (fun os started H enc _ => heapNews_lifted os started H enc)
#print axioms heapNews_holds
end Go.Proofs.Ythfdpfapgommmaa
