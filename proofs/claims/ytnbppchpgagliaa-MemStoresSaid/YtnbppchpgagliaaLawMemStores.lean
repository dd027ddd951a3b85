/- The law MemStores: Store returns what the reference returns, for all arguments. Conditions: none. -/
import Derived.Test.YtnbppchpgagliaaMemStR
import Derived.Test.YtnbppchpgagliaaEqV
import Derived.Test.YtnbppchpgagliaaLaw
import Derived.Carry

namespace Go.Proofs.Ytnbppchpgagliaa
open Go.ChangeShapes Go.WideShapes Go.ChangeAt Go.RowKit
set_option linter.unusedVariables false
set_option linter.unusedSimpArgs false
set_option maxRecDepth 100000

theorem storeF_len (xs : List Val) (k : Key) (off : Int) (v : Val) : (storeF xs k off v).1.length ≤ 400 := by
  cases he : (memE xs != 0)
  · have hl := memE_len he
    cases hv : (valE v != 0)
    · cases hp : ((putF xs k off v).2 != 0)
      · rw [storeF_yes he hv hp]
        have := putF_length (xs := xs) (k := k) (off := off) (v := v)
        show (putF xs k off v).1.length ≤ 400
        omega
      · rw [storeF_no he hv hp]; simp
    · rw [storeF_val he hv]; simp
  · rw [storeF_mem he]; simp
set_option maxHeartbeats 2000000 in
theorem memStores_walk (A : Option Addr) (c : Nat) (xs : List Val) (k : Key) (hk : k.Wf) (off : Int) (v : Val) (hv : v.Wf) (w : World) (hc0 : xs.length ≤ c) (hc1 : c ≤ maxLen) (hwf : ∀ (i : Nat) v, xs[i]? = some v → Val.Wf v) (hL : Lies encV 7 w w.heap.size A xs) :
    Calls Try.prog 6 #[.slice A xs.length c, .agg #[.int .i64 k.perm, .int .i64 k.base, .int .i64 k.len, .int .i64 k.pos, .int .i64 k.tag], .int .i64 off, .agg #[.bool v.is, .int .i64 v.n, .int .i64 v.key.perm, .int .i64 v.key.base, .int .i64 v.key.len, .int .i64 v.key.pos, .int .i64 v.key.tag]] w (Ret (.bool true) w) := by
  have h1 := c_mem_Store A c k hk off v xs
  have h2 := fun W hL => r_Store A c k hk off v hv xs W hc0 hc1 hwf hL
  have hlen := storeF_len xs k off v
  generalize storeF xs k off v = r at h1 h2 hlen
  obtain ⟨ys, er⟩ := r
  have H1 := Lib.hid h1
  have H2 := Lib.hid h2
  clear h1 h2 hwf
  obtain ⟨cs, hmk⟩ := make_401
  go_enter Try.func6, Try.ntmps6
  go_wp2_with (first | (go_at_call 23; (with_reducible refine (H1.out _ ((hL.below (by (repeat' (first | (with_reducible exact Below.refl _ _) | (with_reducible assumption) | (with_reducible refine Below.alloc ?_ ?_ _) | (with_reducible refine Below.drew ?_) | (with_reducible refine Below.setCell ?_ ?_ _) | (refine Below.trans ?_ (Below.mono (by with_reducible assumption) ?_)) | go_size)))).more (by ((try simp only [World.size_alloc, World.size_setCell, World.size_drew]) <;> omega)))).mono ?_); rintro e w1 ⟨A1, k1, rfl, hO1, hL1, hb1⟩; have hK := (keyVal k v w).on hb1; clear hO1; (skip; have HK := Lib.hid hK; have hbw := hK.below; have HB0 := Lib.hid (hK.box 0 _ rfl); have c0 := fun o => HB0.out.cell o; have f0 := fun o => HB0.out.frozen o; have z0 := HB0.out.lt; (try dsimp only at c0); have HB1 := Lib.hid (hK.box 1 _ rfl); have c1 := fun o => HB1.out.cell o; have f1 := fun o => HB1.out.frozen o; have z1 := HB1.out.lt; (try dsimp only at c1); (try simp only [Nat.add_zero] at c0 f0 z0); clear hK)) | (go_at_call 24; (with_reducible refine (H2.out w1 ((hL.below hbw).more (by omega))).mono ?_); rintro e w2 ⟨A2, k2, rfl, hO2, hL2, hb2⟩; have hz2 := hb2.size; clear hO2) | (go_at_call 25; (with_reducible refine (r_Eq_V A1 A2 k1 k2 ys ys w2 (by omega) ((hL1.below hb2).more hz2) hL2).mono ?_); intro e w3 hr; obtain ⟨rfl, hb, hc, hf, hz⟩ := hr.use; (try simp only [World.size_alloc, World.size_setCell, World.size_drew] at hz); clear hr) | (go_at_call 19; (with_reducible refine (c_mem_Check_large _ 401 _ _ (by omega)).mono ?_); intro e w4 hr; obtain ⟨rfl, hb, hc, hf, hz⟩ := hr.use; (try simp only [World.size_alloc, World.size_setCell, World.size_drew] at hz); clear hr))
  go_returns
  exact Ret.bool (by simp) (by (repeat' (first | (with_reducible exact Below.refl _ _) | (with_reducible assumption) | (with_reducible refine Below.alloc ?_ ?_ _) | (with_reducible refine Below.drew ?_) | (with_reducible refine Below.setCell ?_ ?_ _) | (refine Below.trans ?_ (Below.mono (by with_reducible assumption) ?_)) | go_size)))
theorem memStores_open {H : Type} (enc : TypeId × Value → H) (W : World) (base : Nat) (args : Array Value) (ds : List (DataW H)) (ps : List MemPlace)
    (hval : ∀ (j : Nat) t v, Try.f6.params[j]? = some t → args[j]? = some v → Value.okWide Try.prog W .any base t v)
    (hA : DataW.TrodAll enc Try.prog W 0 (fun _ => true) true Try.f6.params.toList args.toList ds ps) (hlt : ∀ x ∈ ps, x.block < W.heap.size)
    (hsz : (DataW.weightsEach Try.prog Try.f6.params.toList ds).all (· ≤ reachBytes) = true) :
    Calls Try.prog 6 args W fun e W' => e = .returned (.bool true) ∧ Below W.heap.size W W' := by
  rw [Try.params6] at hA hval
  obtain ⟨v0, v1, v2, v3, d0, d1, d2, d3, p0, p1, p2, p3, hargs, rfl, rfl, h0, h1, h2, h3⟩ := trodAll_four hA
  subst hargs
  obtain ⟨A, c, xs, rfl, hxc, hc, hwf, hL⟩ := open_rows (α := Val) (enc := encV) (Wf := Val.Wf) (size := 7) Try.underlying22 cells_val (by decide) trod_val (fun k => rfl) (hval 0 _ v0 rfl rfl) h0
  obtain ⟨k, hk, rfl⟩ := open_key (hval 1 _ v1 rfl rfl) h1
  obtain ⟨n, rfl, _, _, wn⟩ := open_int Try.underlying3 (hval 2 _ v2 rfl rfl) h2
  obtain ⟨v, hv, rfl⟩ := open_val (hval 3 _ v3 rfl rfl) h3
  exact (memStores_walk A c xs k hk n v hv W hxc hc hwf hL).mono fun e W' hr => hr
set_option maxRecDepth 100000 in
theorem memStores_lifted (os : Os) (started : os.Started) (H : Type) (enc : TypeId × Value → H) :
    ReturnsInHanded {} Try.checked os 6 .any (Rows.memStoresSpec.pre6 enc Try.prog Try.f6 [] false) (Rows.memStoresSpec.post enc Try.prog Try.f6 false true false false) :=
  lifted (C := Try.checked) (s := Rows.memStoresSpec) (by kernel_rfl) started (by kernel_rfl) Try.func6
    (ChangeSpec.witness6 (enc := enc) (C := Try.checked) false ⟨#[], #[.slice none 0 0, .agg #[.int .i64 0, .int .i64 0, .int .i64 0, .int .i64 0, .int .i64 0], .int .i64 0, .agg #[.bool false, .int .i64 0, .int .i64 0, .int .i64 0, .int .i64 0, .int .i64 0, .int .i64 0]], []⟩ 12 (by kernel_rfl) (by kernel_rfl) (by kernel_rfl) (by kernel_rfl))
    (by kernel_rfl) (by kernel_rfl) rfl rfl Try.underlying4
    (fun ds h => by match ds, h with | [_, _, _, _], _ => exact ⟨rfl, rfl, rfl⟩)
    (fun W base args ds ps hval hA hlt hsz => memStores_open enc W base args ds ps hval hA hlt hsz)
theorem memStores_holds : Rows.MemStoresSaid :=
  OpenClaim.holds_of_wide 6 Try.f6 rfl rfl rfl rfl rfl rfl rfl ⟨rfl, rfl, rfl, rfl, rfl⟩ rfl rfl rfl rfl rfl (by kernel_rfl) Try.func6 (by kernel_rfl)
    (of_decide_eq_true (by kernel_rfl)) (by unfold Func.isWrapper; first | (rw [if_pos (by decide +kernel)]; kernel_rfl) | (rw [if_neg (by decide +kernel)]; exact ⟨rfl, rfl⟩))
    (fun os started H enc _ => memStores_lifted os started H enc)
#print axioms memStores_holds
end Go.Proofs.Ytnbppchpgagliaa
