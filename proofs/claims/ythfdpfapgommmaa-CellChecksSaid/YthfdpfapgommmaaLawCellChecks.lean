/- The law CellChecks: Check and Same return what the references return, for all arguments. Conditions: none. -/
import Derived.Test.YthfdpfapgommmaaCell
import Derived.Test.YthfdpfapgommmaaKept
import Derived.Test.YthfdpfapgommmaaLaw
import Derived.Test.YthfdpfapgommmaaOpen

namespace Go.Proofs.Ythfdpfapgommmaa
open Go.ChangeShapes Go.WideShapes Go.ChangeAt Go.RowKit
set_option linter.unusedVariables false
set_option linter.unusedSimpArgs false

set_option maxHeartbeats 1000000 in
theorem cellChecks_walk (a b : Val) (ha : a.Wf) (hb0 : b.Wf) (w : World) :
    Calls Try.prog 11 #[.agg #[.bool a.is, .int .i64 a.n, .int .i64 a.key.perm, .int .i64 a.key.base, .int .i64 a.key.len, .int .i64 a.key.pos, .int .i64 a.key.tag], .agg #[.bool b.is, .int .i64 b.n, .int .i64 b.key.perm, .int .i64 b.key.base, .int .i64 b.key.len, .int .i64 b.key.pos, .int .i64 b.key.tag]] w (Ret (.bool true) w) := by
  have hbig : valE ⟨false, 1099511627776, ⟨0, 0, 0, 0, 0⟩⟩ = 1 := by decide
  go_enter Try.func11, Try.ntmps11
  go_wp2_with fail
  (refine wp_region_kept (w0 := w) (bs := [#[.bool a.is, .int .i64 a.n, .int .i64 a.key.perm, .int .i64 a.key.base, .int .i64 a.key.len, .int .i64 a.key.pos, .int .i64 a.key.tag], #[.bool b.is, .int .i64 b.n, .int .i64 b.key.perm, .int .i64 b.key.base, .int .i64 b.key.len, .int .i64 b.key.pos, .int .i64 b.key.tag]]) (by kernel_rfl) (by kernel_rfl) (Kept.mk2 (by (repeat' (first | (with_reducible exact Below.refl _ _) | (with_reducible assumption) | (with_reducible refine Below.alloc ?_ ?_ _) | (with_reducible refine Below.drew ?_) | (with_reducible refine Below.setCell ?_ ?_ _) | (refine Below.trans ?_ (Below.mono (by with_reducible assumption) ?_)) | go_size))) (by go_size) (fun o => by simp [go_sem, *]) (fun o => by simp [go_sem, *]) (fun o => by simp [go_sem, *]) (fun o => by simp [go_sem, *])) ?_; (repeat (first | go_big_quiet_skip | (go_big_quiet_want; first | (refine BigFrame.quiet_move _ rfl ?_; (simp only [Act.put, Act.eval, Array.getD_eq_getD_getElem?, List.getElem?_toArray, List.getElem?_cons_zero, List.getElem?_cons_succ, Option.getD_some, List.setIfInBounds_toArray, List.set_cons_zero, List.set_cons_succ]); go_big_quiet_on) | (refine BigFrame.quiet_assign _ rfl ?_; (simp only [Act.put, Act.eval, Array.getD_eq_getD_getElem?, List.getElem?_toArray, List.getElem?_cons_zero, List.getElem?_cons_succ, Option.getD_some, List.setIfInBounds_toArray, List.set_cons_zero, List.set_cons_succ]); go_big_quiet_on) | (apply quiet_call; (focus (intro W; go_simp; constructor <;> with_reducible rfl)); (focus (intro W hW; first | (go_at_call 39; (with_reducible refine (c_cell_Check a _).mono ?_); intro e w1 hr; exact hW.ret hr) | (go_at_call 39; (with_reducible refine (c_cell_Check ⟨false, 1099511627776, ⟨0, 0, 0, 0, 0⟩⟩ _).mono ?_); intro e w1 hr; exact hW.ret hr) | (go_at_call 40; (with_reducible refine (r_CellCheck _ (by first | exact ha | exact hb0) _).mono ?_); intro e w1 hr; exact hW.ret hr) | (go_at_call 41; (with_reducible refine (c_cell_Same _ _ _).mono ?_); intro e w1 hr; exact hW.ret hr))); (simp only [Act.put, Act.eval, Array.getD_eq_getD_getElem?, List.getElem?_toArray, List.getElem?_cons_zero, List.getElem?_cons_succ, Option.getD_some, List.setIfInBounds_toArray, List.set_cons_zero, List.set_cons_succ]); go_big_quiet_on) | (apply quiet_run; (focus (intro W hW; obtain ⟨hB, hS, hC, hF⟩ := hW; have c0 := hC 0 _ rfl; have f0 := hF 0 _ rfl; have c1 := hC 1 _ rfl; have f1 := hF 1 _ rfl; clear hC hF; (try simp only [Nat.add_zero] at c0 f0); (try simp only [List.length_cons, List.length_nil] at hS); go_simp; first | done | with_reducible rfl)); (simp only [Act.put, Act.eval, Array.getD_eq_getD_getElem?, List.getElem?_toArray, List.getElem?_cons_zero, List.getElem?_cons_succ, Option.getD_some, List.setIfInBounds_toArray, List.set_cons_zero, List.set_cons_succ]); go_big_quiet_on)))); refine wpQuiet_nil ?_; intro w1 hW; obtain ⟨hB, hS, hC, hF⟩ := hW; have c0 := hC 0 _ rfl; have f0 := hF 0 _ rfl; have c1 := hC 1 _ rfl; have f1 := hF 1 _ rfl; clear hC hF; (try simp only [Nat.add_zero] at c0 f0); (try simp only [List.length_cons, List.length_nil] at hS))
  go_wp2_with fail
  go_returns
  exact Ret.bool rfl (by (repeat' (first | (with_reducible exact Below.refl _ _) | (with_reducible assumption) | (with_reducible refine Below.alloc ?_ ?_ _) | (with_reducible refine Below.drew ?_) | (with_reducible refine Below.setCell ?_ ?_ _) | (refine Below.trans ?_ (Below.mono (by with_reducible assumption) ?_)) | go_size)))
theorem cellChecks_open {H : Type} (enc : TypeId × Value → H) (W : World) (base : Nat) (args : Array Value) (ds : List (DataW H)) (ps : List MemPlace)
    (hval : ∀ (j : Nat) t v, Try.f11.params[j]? = some t → args[j]? = some v → Value.okWide Try.prog W .any base t v)
    (hA : DataW.TrodAll enc Try.prog W 0 (fun _ => true) true Try.f11.params.toList args.toList ds ps) (hlt : ∀ x ∈ ps, x.block < W.heap.size)
    (hsz : (DataW.weightsEach Try.prog Try.f11.params.toList ds).all (· ≤ reachBytes) = true) :
    Calls Try.prog 11 args W fun e W' => e = .returned (.bool true) ∧ Below W.heap.size W W' := by
  rw [Try.params11] at hA hval
  obtain ⟨v0, v1, d0, d1, p0, p1, hargs, rfl, rfl, h0, h1⟩ := trodAll_two hA
  subst hargs
  obtain ⟨a, ha, rfl⟩ := open_val (hval 0 _ v0 rfl rfl) h0
  obtain ⟨b, hb, rfl⟩ := open_val (hval 1 _ v1 rfl rfl) h1
  exact (cellChecks_walk a b ha hb W).mono fun e W' hr => hr
set_option maxRecDepth 100000 in
theorem cellChecks_lifted (os : Os) (started : os.Started) (H : Type) (enc : TypeId × Value → H) :
    ReturnsInHanded {} Try.checked os 11 .any (Rows.cellChecksSpec.pre6 enc Try.prog Try.f11 [] false) (Rows.cellChecksSpec.post enc Try.prog Try.f11 false true false false) :=
  lifted (C := Try.checked) (s := Rows.cellChecksSpec) (by kernel_rfl) started (by kernel_rfl) Try.func11
    (ChangeSpec.witness6 (enc := enc) (C := Try.checked) false ⟨#[], #[.agg #[.bool false, .int .i64 0, .int .i64 0, .int .i64 0, .int .i64 0, .int .i64 0, .int .i64 0], .agg #[.bool false, .int .i64 0, .int .i64 0, .int .i64 0, .int .i64 0, .int .i64 0, .int .i64 0]], []⟩ 12 (by kernel_rfl) (by kernel_rfl) (by kernel_rfl) (by kernel_rfl))
    (by kernel_rfl) (by kernel_rfl) rfl rfl Try.underlying4
    (fun ds h => by match ds, h with | [_, _], _ => exact ⟨rfl, rfl, rfl⟩)
    (fun W base args ds ps hval hA hlt hsz => cellChecks_open enc W base args ds ps hval hA hlt hsz)
theorem cellChecks_holds : Rows.CellChecksSaid :=
  OpenClaim.holds_of_wide 11 Try.f11 rfl rfl rfl rfl rfl rfl rfl ⟨rfl, rfl, rfl, rfl, rfl⟩ rfl rfl rfl rfl rfl (by kernel_rfl) Try.func11 (by kernel_rfl)
    (of_decide_eq_true (by kernel_rfl)) (by unfold Func.isWrapper; first | (rw [if_pos (by decide +kernel)]; kernel_rfl) | (rw [if_neg (by decide +kernel)]; exact ⟨rfl, rfl⟩))
    (fun os started H enc _ => cellChecks_lifted os started H enc)
#print axioms cellChecks_holds
end Go.Proofs.Ythfdpfapgommmaa
