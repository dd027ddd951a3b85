/- The law MemChecks: Check returns what the reference returns, for all arguments. Conditions: none. -/
import Derived.Test.YtmalaomcolgfcaaMem
import Derived.Test.YtmalaomcolgfcaaLaw
import Derived.Test.YtmalaomcolgfcaaKept

namespace Go.Proofs.Ytmalaomcolgfcaa
open Go.ChangeShapes Go.WideShapes Go.ChangeAt Go.RowKit
set_option linter.unusedVariables false
set_option linter.unusedSimpArgs false

theorem memChecks_walk (A : Option Addr) (c : Nat) (xs : List Val) (w : World) (hwf : ∀ (i : Nat) v, xs[i]? = some v → Val.Wf v) (hL : Lies encV 7 w w.heap.size A xs) :
    Calls Try.prog 3 #[.slice A xs.length c] w (Ret (.bool true) w) := by
  have HW := Lib.hid hwf
  clear hwf
  obtain ⟨cs, hmk⟩ := make_401
  go_enter Try.func3, Try.ntmps3
  go_wp2_with (first | (go_at_call 15; (with_reducible refine (c_mem_Check A c xs w hL).mono ?_); intro e w1 hr; obtain ⟨rfl, hb, hc, hf, hz⟩ := hr.use; (try simp only [World.size_alloc, World.size_setCell, World.size_drew] at hz); clear hr) | (go_at_call 16; (with_reducible refine (r_MemCheck A c xs w1 HW.out ((hL.below hb).more hb.size)).mono ?_); intro e w2 hr; obtain ⟨rfl, hb, hc, hf, hz⟩ := hr.use; (try simp only [World.size_alloc, World.size_setCell, World.size_drew] at hz); clear hr) | (go_at_call 15; (with_reducible refine (c_mem_Check_large _ 401 _ _ (by omega)).mono ?_); intro e w3 hr; obtain ⟨rfl, hb, hc, hf, hz⟩ := hr.use; (try simp only [World.size_alloc, World.size_setCell, World.size_drew] at hz); clear hr))
  go_returns
  exact Ret.bool rfl (by (repeat' (first | (with_reducible exact Below.refl _ _) | (with_reducible assumption) | (with_reducible refine Below.alloc ?_ ?_ _) | (with_reducible refine Below.drew ?_) | (with_reducible refine Below.setCell ?_ ?_ _) | (refine Below.trans ?_ (Below.mono (by with_reducible assumption) ?_)) | go_size)))
theorem memChecks_open {H : Type} (enc : TypeId × Value → H) (W : World) (base : Nat) (args : Array Value) (ds : List (DataW H)) (ps : List MemPlace)
    (hval : ∀ (j : Nat) t v, Try.f3.params[j]? = some t → args[j]? = some v → Value.okWide Try.prog W .any base t v)
    (hA : DataW.TrodAll enc Try.prog W 0 (fun _ => true) true Try.f3.params.toList args.toList ds ps) (hlt : ∀ x ∈ ps, x.block < W.heap.size)
    (hsz : (DataW.weightsEach Try.prog Try.f3.params.toList ds).all (· ≤ reachBytes) = true) :
    Calls Try.prog 3 args W fun e W' => e = .returned (.bool true) ∧ Below W.heap.size W W' := by
  rw [Try.params3] at hA hval
  obtain ⟨v0, d0, rfl, rfl, h0⟩ := trodAll_one hA
  obtain ⟨A, c, xs, rfl, _, _, hwf, hL⟩ := open_rows (α := Val) (enc := encV) (Wf := Val.Wf) (size := 7) Try.underlying22 cells_val (by decide) trod_val (fun k => rfl) (hval 0 _ v0 rfl rfl) h0
  exact (memChecks_walk A c xs W hwf hL).mono fun e W' hr => hr
set_option maxRecDepth 100000 in
theorem memChecks_lifted (os : Os) (started : os.Started) (H : Type) (enc : TypeId × Value → H) :
    ReturnsInHanded {} Try.checked os 3 .any (Rows.memChecksSpec.pre6 enc Try.prog Try.f3 [] false) (Rows.memChecksSpec.post enc Try.prog Try.f3 false true false false) :=
  lifted (C := Try.checked) (s := Rows.memChecksSpec) (by kernel_rfl) started (by kernel_rfl) Try.func3
    (ChangeSpec.witness6 (enc := enc) (C := Try.checked) false ⟨#[], #[.slice none 0 0], []⟩ 12 (by kernel_rfl) (by kernel_rfl) (by kernel_rfl) (by kernel_rfl))
    (by kernel_rfl) (by kernel_rfl) rfl rfl Try.underlying4
    (fun ds h => by match ds, h with | [_], _ => exact ⟨rfl, rfl, rfl⟩)
    (fun W base args ds ps hval hA hlt hsz => memChecks_open enc W base args ds ps hval hA hlt hsz)
theorem memChecks_holds : Rows.MemChecksSaid :=
  OpenClaim.holds_of_wide 3 Try.f3 rfl rfl rfl rfl rfl rfl rfl ⟨rfl, rfl, rfl, rfl, rfl⟩ rfl rfl rfl rfl rfl (by kernel_rfl) Try.func3 (by kernel_rfl)
    (of_decide_eq_true (by kernel_rfl)) (by unfold Func.isWrapper; first | (rw [if_pos (by decide +kernel)]; kernel_rfl) | (rw [if_neg (by decide +kernel)]; exact ⟨rfl, rfl⟩))
    (fun os started H enc _ => memChecks_lifted os started H enc)
#print axioms memChecks_holds
end Go.Proofs.Ytmalaomcolgfcaa
