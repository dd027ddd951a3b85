/- The law KeysMoves: Move and Narrow return what the reference returns, for all arguments. Conditions: none. -/
import Derived.Test.YtmalaomcolgfcaaKeysMv
import Derived.Test.YtmalaomcolgfcaaEq
import Derived.Test.YtmalaomcolgfcaaLaw
import Derived.Test.YtmalaomcolgfcaaOpen

namespace Go.Proofs.Ytmalaomcolgfcaa
open Go.ChangeShapes Go.WideShapes Go.ChangeAt Go.RowKit
set_option linter.unusedVariables false
set_option linter.unusedSimpArgs false

set_option maxHeartbeats 4000000 in
theorem keysMoves_walk (a : Key) (n : Int) (ha : a.Wf) (hn : i64 n) (w : World) :
    Calls Try.prog 6 #[.agg #[.int .i64 a.perm, .int .i64 a.base, .int .i64 a.len, .int .i64 a.pos, .int .i64 a.tag], .int .i64 n] w (Ret (.bool true) w) := by
  have h401 : keyE ⟨0, 0, 401, 0, 0⟩ = 1 := by decide
  go_enter Try.func6, Try.ntmps6
  go_wp2_with (first | (go_at_call 24; (with_reducible refine (c_keys_Move _ _ hn _).mono ?_); intro e w1 hr; obtain ⟨rfl, hb, hc, hf, hz⟩ := hr.use; (try simp only [World.size_alloc, World.size_setCell, World.size_drew] at hz); clear hr; have c0 := fun o => hc (w.heap.size) o (by (try simp only [World.size_alloc, World.size_setCell, World.size_drew]); omega); have f0 := fun o => hf (w.heap.size) o (by (try simp only [World.size_alloc, World.size_setCell, World.size_drew]); omega); have z0 : w.heap.size < w1.heap.size := (by (try simp only [World.size_alloc, World.size_setCell, World.size_drew]); omega); clear hc hf; simp only [go_sem, World.size_alloc, *] at c0 f0) | (go_at_call 25; (with_reducible refine (r_KeyOp_move _ _ ha hn _).mono ?_); intro e w2 hr; obtain ⟨rfl, hb, hc, hf, hz⟩ := hr.use; (try simp only [World.size_alloc, World.size_setCell, World.size_drew] at hz); clear hr; have c0 := fun o => hc (w.heap.size) o (by (try simp only [World.size_alloc, World.size_setCell, World.size_drew]); omega); have f0 := fun o => hf (w.heap.size) o (by (try simp only [World.size_alloc, World.size_setCell, World.size_drew]); omega); have z0 : w.heap.size < w2.heap.size := (by (try simp only [World.size_alloc, World.size_setCell, World.size_drew]); omega); have c1 := fun o => hc (w1.heap.size) o (by (try simp only [World.size_alloc, World.size_setCell, World.size_drew]); omega); have f1 := fun o => hf (w1.heap.size) o (by (try simp only [World.size_alloc, World.size_setCell, World.size_drew]); omega); have z1 : w1.heap.size < w2.heap.size := (by (try simp only [World.size_alloc, World.size_setCell, World.size_drew]); omega); clear hc hf; simp only [go_sem, World.size_alloc, *] at c0 f0 c1 f1) | (go_at_call 26; (with_reducible refine (c_keys_Narrow _ _ hn _).mono ?_); intro e w3 hr; obtain ⟨rfl, hb, hc, hf, hz⟩ := hr.use; (try simp only [World.size_alloc, World.size_setCell, World.size_drew] at hz); clear hr; have c0 := fun o => hc (w.heap.size) o (by (try simp only [World.size_alloc, World.size_setCell, World.size_drew]); omega); have f0 := fun o => hf (w.heap.size) o (by (try simp only [World.size_alloc, World.size_setCell, World.size_drew]); omega); have z0 : w.heap.size < w3.heap.size := (by (try simp only [World.size_alloc, World.size_setCell, World.size_drew]); omega); have c1 := fun o => hc (w1.heap.size) o (by (try simp only [World.size_alloc, World.size_setCell, World.size_drew]); omega); have f1 := fun o => hf (w1.heap.size) o (by (try simp only [World.size_alloc, World.size_setCell, World.size_drew]); omega); have z1 : w1.heap.size < w3.heap.size := (by (try simp only [World.size_alloc, World.size_setCell, World.size_drew]); omega); have c2 := fun o => hc (w2.heap.size) o (by (try simp only [World.size_alloc, World.size_setCell, World.size_drew]); omega); have f2 := fun o => hf (w2.heap.size) o (by (try simp only [World.size_alloc, World.size_setCell, World.size_drew]); omega); have z2 : w2.heap.size < w3.heap.size := (by (try simp only [World.size_alloc, World.size_setCell, World.size_drew]); omega); clear hc hf; simp only [go_sem, World.size_alloc, *] at c0 f0 c1 f1 c2 f2) | (go_at_call 25; (with_reducible refine (r_KeyOp_narrow _ _ ha hn _).mono ?_); intro e w4 hr; obtain ⟨rfl, hb, hc, hf, hz⟩ := hr.use; (try simp only [World.size_alloc, World.size_setCell, World.size_drew] at hz); clear hr; have c0 := fun o => hc (w.heap.size) o (by (try simp only [World.size_alloc, World.size_setCell, World.size_drew]); omega); have f0 := fun o => hf (w.heap.size) o (by (try simp only [World.size_alloc, World.size_setCell, World.size_drew]); omega); have z0 : w.heap.size < w4.heap.size := (by (try simp only [World.size_alloc, World.size_setCell, World.size_drew]); omega); have c1 := fun o => hc (w1.heap.size) o (by (try simp only [World.size_alloc, World.size_setCell, World.size_drew]); omega); have f1 := fun o => hf (w1.heap.size) o (by (try simp only [World.size_alloc, World.size_setCell, World.size_drew]); omega); have z1 : w1.heap.size < w4.heap.size := (by (try simp only [World.size_alloc, World.size_setCell, World.size_drew]); omega); have c2 := fun o => hc (w2.heap.size) o (by (try simp only [World.size_alloc, World.size_setCell, World.size_drew]); omega); have f2 := fun o => hf (w2.heap.size) o (by (try simp only [World.size_alloc, World.size_setCell, World.size_drew]); omega); have z2 : w2.heap.size < w4.heap.size := (by (try simp only [World.size_alloc, World.size_setCell, World.size_drew]); omega); have c3 := fun o => hc (w3.heap.size) o (by (try simp only [World.size_alloc, World.size_setCell, World.size_drew]); omega); have f3 := fun o => hf (w3.heap.size) o (by (try simp only [World.size_alloc, World.size_setCell, World.size_drew]); omega); have z3 : w3.heap.size < w4.heap.size := (by (try simp only [World.size_alloc, World.size_setCell, World.size_drew]); omega); clear hc hf; simp only [go_sem, World.size_alloc, *] at c0 f0 c1 f1 c2 f2 c3 f3) | (go_at_call 27; (with_reducible refine (c_keys_Check ⟨0, 0, 401, 0, 0⟩ _).mono ?_); intro e w5 hr; obtain ⟨rfl, hb, hc, hf, hz⟩ := hr.use; (try simp only [World.size_alloc, World.size_setCell, World.size_drew] at hz); clear hr))
  go_returns
  exact Ret.bool rfl (by (repeat' (first | (with_reducible exact Below.refl _ _) | (with_reducible assumption) | (with_reducible refine Below.alloc ?_ ?_ _) | (with_reducible refine Below.drew ?_) | (with_reducible refine Below.setCell ?_ ?_ _) | (refine Below.trans ?_ (Below.mono (by with_reducible assumption) ?_)) | go_size)))
theorem keysMoves_open {H : Type} (enc : TypeId × Value → H) (W : World) (base : Nat) (args : Array Value) (ds : List (DataW H)) (ps : List MemPlace)
    (hval : ∀ (j : Nat) t v, Try.f6.params[j]? = some t → args[j]? = some v → Value.okWide Try.prog W .any base t v)
    (hA : DataW.TrodAll enc Try.prog W 0 (fun _ => true) true Try.f6.params.toList args.toList ds ps) (hlt : ∀ x ∈ ps, x.block < W.heap.size)
    (hsz : (DataW.weightsEach Try.prog Try.f6.params.toList ds).all (· ≤ reachBytes) = true) :
    Calls Try.prog 6 args W fun e W' => e = .returned (.bool true) ∧ Below W.heap.size W W' := by
  rw [Try.params6] at hA hval
  obtain ⟨v0, v1, d0, d1, p0, p1, hargs, rfl, rfl, h0, h1⟩ := trodAll_two hA
  subst hargs
  obtain ⟨a, ha, rfl⟩ := open_key (hval 0 _ v0 rfl rfl) h0
  obtain ⟨i, rfl, _, _, wi⟩ := open_int Try.underlying3 (hval 1 _ v1 rfl rfl) h1
  exact (keysMoves_walk a i ha (i64_of_wf wi) W).mono fun e W' hr => hr
set_option maxRecDepth 100000 in
theorem keysMoves_lifted (os : Os) (started : os.Started) (H : Type) (enc : TypeId × Value → H) :
    ReturnsInHanded {} Try.checked os 6 .any (Rows.keysMovesSpec.pre6 enc Try.prog Try.f6 [] false) (Rows.keysMovesSpec.post enc Try.prog Try.f6 false true false false) :=
  lifted (C := Try.checked) (s := Rows.keysMovesSpec) (by kernel_rfl) started (by kernel_rfl) Try.func6
    (ChangeSpec.witness6 (enc := enc) (C := Try.checked) false ⟨#[], #[.agg #[.int .i64 0, .int .i64 0, .int .i64 0, .int .i64 0, .int .i64 0], .int .i64 0], []⟩ 12 (by kernel_rfl) (by kernel_rfl) (by kernel_rfl) (by kernel_rfl))
    (by kernel_rfl) (by kernel_rfl) rfl rfl Try.underlying4
    (fun ds h => by match ds, h with | [_, _], _ => exact ⟨rfl, rfl, rfl⟩)
    (fun W base args ds ps hval hA hlt hsz => keysMoves_open enc W base args ds ps hval hA hlt hsz)
theorem keysMoves_holds : Rows.KeysMovesSaid :=
  OpenClaim.holds_of_wide 6 Try.f6 rfl rfl rfl rfl rfl rfl rfl ⟨rfl, rfl, rfl, rfl, rfl⟩ rfl rfl rfl rfl rfl (by kernel_rfl) Try.func6 (by kernel_rfl)
    (of_decide_eq_true (by kernel_rfl)) (by unfold Func.isWrapper; first | (rw [if_pos (by decide +kernel)]; kernel_rfl) | (rw [if_neg (by decide +kernel)]; exact ⟨rfl, rfl⟩))
    (fun os started H enc _ => keysMoves_lifted os started H enc)
#print axioms keysMoves_holds
end Go.Proofs.Ytmalaomcolgfcaa
