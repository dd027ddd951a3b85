/- The laws KeysSeals and KeysOpens: Seal and Open return what the reference returns, for all arguments. Conditions: none. -/
import Derived.Test.YtmalaomcolgfcaaKeysSl
import Derived.Test.YtmalaomcolgfcaaEq
import Derived.Test.YtmalaomcolgfcaaLaw
import Derived.Test.YtmalaomcolgfcaaOpen

namespace Go.Proofs.Ytmalaomcolgfcaa
open Go.ChangeShapes Go.WideShapes Go.ChangeAt Go.RowKit
set_option linter.unusedVariables false
set_option linter.unusedSimpArgs false

set_option maxHeartbeats 4000000 in
theorem keysSeals_walk (a b : Key) (ha : a.Wf) (hy : b.Wf) (w : World) :
    Calls Try.prog 12 #[.agg #[.int .i64 a.perm, .int .i64 a.base, .int .i64 a.len, .int .i64 a.pos, .int .i64 a.tag], .agg #[.int .i64 b.perm, .int .i64 b.base, .int .i64 b.len, .int .i64 b.pos, .int .i64 b.tag]] w (Ret (.bool true) w) := by
  go_enter Try.func12, Try.ntmps12
  go_wp2_with (first | (go_at_call 41; (with_reducible refine (c_keys_Seal _ _ hy _).mono ?_); intro e w1 hr; obtain ⟨rfl, hb, hc, hf, hz⟩ := hr.use; (try simp only [World.size_alloc, World.size_setCell, World.size_drew] at hz); clear hr; have c0 := fun o => hc (w.heap.size) o (by (try simp only [World.size_alloc, World.size_setCell, World.size_drew]); omega); have f0 := fun o => hf (w.heap.size) o (by (try simp only [World.size_alloc, World.size_setCell, World.size_drew]); omega); have z0 : w.heap.size < w1.heap.size := (by (try simp only [World.size_alloc, World.size_setCell, World.size_drew]); omega); have c1 := fun o => hc (w.heap.size + 1) o (by (try simp only [World.size_alloc, World.size_setCell, World.size_drew]); omega); have f1 := fun o => hf (w.heap.size + 1) o (by (try simp only [World.size_alloc, World.size_setCell, World.size_drew]); omega); have z1 : w.heap.size + 1 < w1.heap.size := (by (try simp only [World.size_alloc, World.size_setCell, World.size_drew]); omega); clear hc hf; simp only [go_sem, World.size_alloc, *] at c0 f0 c1 f1) | (go_at_call 29; (with_reducible refine (r_KeySeal_seal _ _ ha hy _).mono ?_); intro e w2 hr; obtain ⟨rfl, hb, hc, hf, hz⟩ := hr.use; (try simp only [World.size_alloc, World.size_setCell, World.size_drew] at hz); clear hr; have c0 := fun o => hc (w.heap.size) o (by (try simp only [World.size_alloc, World.size_setCell, World.size_drew]); omega); have f0 := fun o => hf (w.heap.size) o (by (try simp only [World.size_alloc, World.size_setCell, World.size_drew]); omega); have z0 : w.heap.size < w2.heap.size := (by (try simp only [World.size_alloc, World.size_setCell, World.size_drew]); omega); have c1 := fun o => hc (w.heap.size + 1) o (by (try simp only [World.size_alloc, World.size_setCell, World.size_drew]); omega); have f1 := fun o => hf (w.heap.size + 1) o (by (try simp only [World.size_alloc, World.size_setCell, World.size_drew]); omega); have z1 : w.heap.size + 1 < w2.heap.size := (by (try simp only [World.size_alloc, World.size_setCell, World.size_drew]); omega); have c2 := fun o => hc (w1.heap.size) o (by (try simp only [World.size_alloc, World.size_setCell, World.size_drew]); omega); have f2 := fun o => hf (w1.heap.size) o (by (try simp only [World.size_alloc, World.size_setCell, World.size_drew]); omega); have z2 : w1.heap.size < w2.heap.size := (by (try simp only [World.size_alloc, World.size_setCell, World.size_drew]); omega); clear hc hf; simp only [go_sem, World.size_alloc, *] at c0 f0 c1 f1 c2 f2))
  go_returns
  exact Ret.bool rfl (by (repeat' (first | (with_reducible exact Below.refl _ _) | (with_reducible assumption) | (with_reducible refine Below.alloc ?_ ?_ _) | (with_reducible refine Below.drew ?_) | (with_reducible refine Below.setCell ?_ ?_ _) | (refine Below.trans ?_ (Below.mono (by with_reducible assumption) ?_)) | go_size)))
theorem keysSeals_open {H : Type} (enc : TypeId × Value → H) (W : World) (base : Nat) (args : Array Value) (ds : List (DataW H)) (ps : List MemPlace)
    (hval : ∀ (j : Nat) t v, Try.f12.params[j]? = some t → args[j]? = some v → Value.okWide Try.prog W .any base t v)
    (hA : DataW.TrodAll enc Try.prog W 0 (fun _ => true) true Try.f12.params.toList args.toList ds ps) (hlt : ∀ x ∈ ps, x.block < W.heap.size)
    (hsz : (DataW.weightsEach Try.prog Try.f12.params.toList ds).all (· ≤ reachBytes) = true) :
    Calls Try.prog 12 args W fun e W' => e = .returned (.bool true) ∧ Below W.heap.size W W' := by
  rw [Try.params12] at hA hval
  obtain ⟨v0, v1, d0, d1, p0, p1, hargs, rfl, rfl, h0, h1⟩ := trodAll_two hA
  subst hargs
  obtain ⟨a, ha, rfl⟩ := open_key (hval 0 _ v0 rfl rfl) h0
  obtain ⟨b, hb, rfl⟩ := open_key (hval 1 _ v1 rfl rfl) h1
  exact (keysSeals_walk a b ha hb W).mono fun e W' hr => hr
set_option maxRecDepth 100000 in
theorem keysSeals_lifted (os : Os) (started : os.Started) (H : Type) (enc : TypeId × Value → H) :
    ReturnsInHanded {} Try.checked os 12 .any (Rows.keysSealsSpec.pre6 enc Try.prog Try.f12 [] false) (Rows.keysSealsSpec.post enc Try.prog Try.f12 false true false false) :=
  lifted (C := Try.checked) (s := Rows.keysSealsSpec) (by kernel_rfl) started (by kernel_rfl) Try.func12
    (ChangeSpec.witness6 (enc := enc) (C := Try.checked) false ⟨#[], #[.agg #[.int .i64 0, .int .i64 0, .int .i64 0, .int .i64 0, .int .i64 0], .agg #[.int .i64 0, .int .i64 0, .int .i64 0, .int .i64 0, .int .i64 0]], []⟩ 12 (by kernel_rfl) (by kernel_rfl) (by kernel_rfl) (by kernel_rfl))
    (by kernel_rfl) (by kernel_rfl) rfl rfl Try.underlying4
    (fun ds h => by match ds, h with | [_, _], _ => exact ⟨rfl, rfl, rfl⟩)
    (fun W base args ds ps hval hA hlt hsz => keysSeals_open enc W base args ds ps hval hA hlt hsz)
theorem keysSeals_holds : Rows.KeysSealsSaid :=
  OpenClaim.holds_of_wide 12 Try.f12 rfl rfl rfl rfl rfl rfl rfl ⟨rfl, rfl, rfl, rfl, rfl⟩ rfl rfl rfl rfl rfl (by kernel_rfl) Try.func12 (by kernel_rfl)
    (of_decide_eq_true (by kernel_rfl)) (by unfold Func.isWrapper; first | (rw [if_pos (by decide +kernel)]; kernel_rfl) | (rw [if_neg (by decide +kernel)]; exact ⟨rfl, rfl⟩))
    (fun os started H enc _ => keysSeals_lifted os started H enc)
#print axioms keysSeals_holds
set_option maxHeartbeats 4000000 in
theorem keysOpens_walk (a b : Key) (ha : a.Wf) (hy : b.Wf) (w : World) :
    Calls Try.prog 7 #[.agg #[.int .i64 a.perm, .int .i64 a.base, .int .i64 a.len, .int .i64 a.pos, .int .i64 a.tag], .agg #[.int .i64 b.perm, .int .i64 b.base, .int .i64 b.len, .int .i64 b.pos, .int .i64 b.tag]] w (Ret (.bool true) w) := by
  go_enter Try.func7, Try.ntmps7
  go_wp2_with (first | (go_at_call 28; (with_reducible refine (c_keys_Open _ _ hy _).mono ?_); intro e w1 hr; obtain ⟨rfl, hb, hc, hf, hz⟩ := hr.use; (try simp only [World.size_alloc, World.size_setCell, World.size_drew] at hz); clear hr; have c0 := fun o => hc (w.heap.size) o (by (try simp only [World.size_alloc, World.size_setCell, World.size_drew]); omega); have f0 := fun o => hf (w.heap.size) o (by (try simp only [World.size_alloc, World.size_setCell, World.size_drew]); omega); have z0 : w.heap.size < w1.heap.size := (by (try simp only [World.size_alloc, World.size_setCell, World.size_drew]); omega); have c1 := fun o => hc (w.heap.size + 1) o (by (try simp only [World.size_alloc, World.size_setCell, World.size_drew]); omega); have f1 := fun o => hf (w.heap.size + 1) o (by (try simp only [World.size_alloc, World.size_setCell, World.size_drew]); omega); have z1 : w.heap.size + 1 < w1.heap.size := (by (try simp only [World.size_alloc, World.size_setCell, World.size_drew]); omega); clear hc hf; simp only [go_sem, World.size_alloc, *] at c0 f0 c1 f1) | (go_at_call 29; (with_reducible refine (r_KeySeal_open _ _ ha hy _).mono ?_); intro e w2 hr; obtain ⟨rfl, hb, hc, hf, hz⟩ := hr.use; (try simp only [World.size_alloc, World.size_setCell, World.size_drew] at hz); clear hr; have c0 := fun o => hc (w.heap.size) o (by (try simp only [World.size_alloc, World.size_setCell, World.size_drew]); omega); have f0 := fun o => hf (w.heap.size) o (by (try simp only [World.size_alloc, World.size_setCell, World.size_drew]); omega); have z0 : w.heap.size < w2.heap.size := (by (try simp only [World.size_alloc, World.size_setCell, World.size_drew]); omega); have c1 := fun o => hc (w.heap.size + 1) o (by (try simp only [World.size_alloc, World.size_setCell, World.size_drew]); omega); have f1 := fun o => hf (w.heap.size + 1) o (by (try simp only [World.size_alloc, World.size_setCell, World.size_drew]); omega); have z1 : w.heap.size + 1 < w2.heap.size := (by (try simp only [World.size_alloc, World.size_setCell, World.size_drew]); omega); have c2 := fun o => hc (w1.heap.size) o (by (try simp only [World.size_alloc, World.size_setCell, World.size_drew]); omega); have f2 := fun o => hf (w1.heap.size) o (by (try simp only [World.size_alloc, World.size_setCell, World.size_drew]); omega); have z2 : w1.heap.size < w2.heap.size := (by (try simp only [World.size_alloc, World.size_setCell, World.size_drew]); omega); clear hc hf; simp only [go_sem, World.size_alloc, *] at c0 f0 c1 f1 c2 f2))
  go_returns
  exact Ret.bool rfl (by (repeat' (first | (with_reducible exact Below.refl _ _) | (with_reducible assumption) | (with_reducible refine Below.alloc ?_ ?_ _) | (with_reducible refine Below.drew ?_) | (with_reducible refine Below.setCell ?_ ?_ _) | (refine Below.trans ?_ (Below.mono (by with_reducible assumption) ?_)) | go_size)))
theorem keysOpens_open {H : Type} (enc : TypeId × Value → H) (W : World) (base : Nat) (args : Array Value) (ds : List (DataW H)) (ps : List MemPlace)
    (hval : ∀ (j : Nat) t v, Try.f7.params[j]? = some t → args[j]? = some v → Value.okWide Try.prog W .any base t v)
    (hA : DataW.TrodAll enc Try.prog W 0 (fun _ => true) true Try.f7.params.toList args.toList ds ps) (hlt : ∀ x ∈ ps, x.block < W.heap.size)
    (hsz : (DataW.weightsEach Try.prog Try.f7.params.toList ds).all (· ≤ reachBytes) = true) :
    Calls Try.prog 7 args W fun e W' => e = .returned (.bool true) ∧ Below W.heap.size W W' := by
  rw [Try.params7] at hA hval
  obtain ⟨v0, v1, d0, d1, p0, p1, hargs, rfl, rfl, h0, h1⟩ := trodAll_two hA
  subst hargs
  obtain ⟨a, ha, rfl⟩ := open_key (hval 0 _ v0 rfl rfl) h0
  obtain ⟨b, hb, rfl⟩ := open_key (hval 1 _ v1 rfl rfl) h1
  exact (keysOpens_walk a b ha hb W).mono fun e W' hr => hr
set_option maxRecDepth 100000 in
theorem keysOpens_lifted (os : Os) (started : os.Started) (H : Type) (enc : TypeId × Value → H) :
    ReturnsInHanded {} Try.checked os 7 .any (Rows.keysOpensSpec.pre6 enc Try.prog Try.f7 [] false) (Rows.keysOpensSpec.post enc Try.prog Try.f7 false true false false) :=
  lifted (C := Try.checked) (s := Rows.keysOpensSpec) (by kernel_rfl) started (by kernel_rfl) Try.func7
    (ChangeSpec.witness6 (enc := enc) (C := Try.checked) false ⟨#[], #[.agg #[.int .i64 0, .int .i64 0, .int .i64 0, .int .i64 0, .int .i64 0], .agg #[.int .i64 0, .int .i64 0, .int .i64 0, .int .i64 0, .int .i64 0]], []⟩ 12 (by kernel_rfl) (by kernel_rfl) (by kernel_rfl) (by kernel_rfl))
    (by kernel_rfl) (by kernel_rfl) rfl rfl Try.underlying4
    (fun ds h => by match ds, h with | [_, _], _ => exact ⟨rfl, rfl, rfl⟩)
    (fun W base args ds ps hval hA hlt hsz => keysOpens_open enc W base args ds ps hval hA hlt hsz)
theorem keysOpens_holds : Rows.KeysOpensSaid :=
  OpenClaim.holds_of_wide 7 Try.f7 rfl rfl rfl rfl rfl rfl rfl ⟨rfl, rfl, rfl, rfl, rfl⟩ rfl rfl rfl rfl rfl (by kernel_rfl) Try.func7 (by kernel_rfl)
    (of_decide_eq_true (by kernel_rfl)) (by unfold Func.isWrapper; first | (rw [if_pos (by decide +kernel)]; kernel_rfl) | (rw [if_neg (by decide +kernel)]; exact ⟨rfl, rfl⟩))
    (fun os started H enc _ => keysOpens_lifted os started H enc)
#print axioms keysOpens_holds
end Go.Proofs.Ytmalaomcolgfcaa
