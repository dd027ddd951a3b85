/- The law Names: the constants have the documented values. Conditions: none. -/
import Derived.Test.YthfdpfapgommmaaLies
import Derived.Test.YthfdpfapgommmaaLaw

namespace Go.Proofs.Ythfdpfapgommmaa
open Go.ChangeShapes Go.WideShapes Go.ChangeAt Go.RowKit
set_option linter.unusedVariables false
set_option linter.unusedSimpArgs false

def encI (n : Int) : List Value := [.int .i64 n]
theorem Lies.int {w : World} {B k : Nat} {A : Option Addr} {xs : List Int} (h : Lies encI 1 w B A xs) (hk : k < xs.length) : ∃ b o n, A = some ⟨b, o, none⟩ ∧ b < B ∧ xs[k]? = some n ∧ w.cell? ⟨b, o + k, none⟩ = some (.int .i64 n) := by
  obtain ⟨b, o, n, hA, hb, hn, hc⟩ := h.at_ hk
  refine ⟨b, o, n, hA, hb, hn, ?_⟩
  have := hc 0 (by omega)
  rw [Nat.mul_one, Nat.add_zero] at this
  exact this
theorem lies_ints (w : World) (t : TypeId) (xs : List Int) : Lies encI 1 (w.alloc (.cells (xs.map (Value.int .i64)).toArray t)) (w.alloc (.cells (xs.map (Value.int .i64)).toArray t)).heap.size (some ⟨w.heap.size, 0, none⟩) xs := fun _ => by
  refine ⟨w.heap.size, 0, rfl, by simp [World.size_alloc], fun i x hx j hj => ?_⟩
  obtain rfl : j = 0 := by omega
  rw [World.cell?_alloc_at _ t _ _ rfl]
  simp [hx, encI]
theorem eq_of_all' {α : Type} {xs ys : List α} (hl : xs.length = ys.length) (h : ∀ j, j < xs.length → xs[j]? = ys[j]?) : xs = ys := by
  apply List.ext_getElem?
  intro j
  rcases Nat.lt_or_ge j xs.length with hj | hj
  · exact h j hj
  · rw [List.getElem?_eq_none hj, List.getElem?_eq_none (by omega)]
theorem r_EqI (A A' : Option Addr) (c c' : Nat) (xs ys : List Int) (w : World) (hx : xs.length < 9223372036854775807) (hL : Lies encI 1 w w.heap.size A xs) (hM : Lies encI 1 w w.heap.size A' ys) :
    Calls Try.prog 15 #[.slice A xs.length c, .slice A' ys.length c'] w (Ret (.bool (decide (xs = ys))) w) := by
  by_cases hl : xs.length = ys.length
  · go_enter Try.func15, Try.ntmps15
    go_wp2
    go_loopw [14] (fun v wr => ∃ k : Nat, v = .int .i64 k ∧ k ≤ xs.length ∧ (∀ j, j < k → xs[j]? = ys[j]?) ∧ Below w.heap.size w wr) (fun v _ => (xs.length - intOf v).toNat)
    case atStart => exact ⟨0, rfl, by omega, fun j hj => by omega, by (repeat' (first | (with_reducible exact Below.refl _ _) | (with_reducible assumption) | (with_reducible refine Below.alloc ?_ ?_ _) | (with_reducible refine Below.drew ?_) | (with_reducible refine Below.setCell ?_ ?_ _) | (refine Below.trans ?_ (Below.mono (by with_reducible assumption) ?_)) | go_size))⟩
    case round =>
      obtain ⟨k, rfl, hk, hall, hbw⟩ := hrel
      have hbz := hbw.size
      have HA := Lib.hid hall
      clear hall
      rcases Nat.lt_or_ge k xs.length with hlt | hge
      · obtain ⟨b, o, p, rfl, hb, hp, q0⟩ := (hL.below hbw).int hlt
        obtain ⟨b', o', q, rfl, hb', hq, r0⟩ := (hM.below hbw).int (k := k) (by omega)
        have HP := Lib.hid hp
        have HQ := Lib.hid hq
        clear hp hq
        have e4 : (0 ≤ (k : Int) ∧ (k : Int) < ys.length) := by omega
        cases hd : (p != q)
        · have H := Lib.hid (show p = q by simpa using hd)
          go_wp2
          go_roundw
          case rel =>
            refine ⟨k + 1, by go_num, by omega, fun j hj => ?_, by (repeat' (first | (with_reducible exact Below.refl _ _) | (with_reducible assumption) | (with_reducible refine Below.alloc ?_ ?_ _) | (with_reducible refine Below.drew ?_) | (with_reducible refine Below.setCell ?_ ?_ _) | (refine Below.trans ?_ (Below.mono (by with_reducible assumption) ?_)) | go_size))⟩
            rcases Nat.lt_or_ge j k with h | h
            · exact HA.out j h
            · obtain rfl : j = k := by omega
              rw [HP.out, HQ.out, H.out]
          case measure => simp [intOf]; omega
        · have H := Lib.hid (show decide (xs = ys) = false from decide_eq_false fun h => by
            rw [h, HQ.out] at HP
            exact (bne_iff_ne.1 hd) (Option.some.inj HP.out).symm)
          go_wp2
          go_returns
          exact Ret.bool H.out.symm (by (repeat' (first | (with_reducible exact Below.refl _ _) | (with_reducible assumption) | (with_reducible refine Below.alloc ?_ ?_ _) | (with_reducible refine Below.drew ?_) | (with_reducible refine Below.setCell ?_ ?_ _) | (refine Below.trans ?_ (Below.mono (by with_reducible assumption) ?_)) | go_size)))
      · have H := Lib.hid (show decide (xs = ys) = true from decide_eq_true (eq_of_all' hl fun j hj => HA.out j (by omega)))
        go_wp2
        go_returns
        exact Ret.bool H.out.symm (by (repeat' (first | (with_reducible exact Below.refl _ _) | (with_reducible assumption) | (with_reducible refine Below.alloc ?_ ?_ _) | (with_reducible refine Below.drew ?_) | (with_reducible refine Below.setCell ?_ ?_ _) | (refine Below.trans ?_ (Below.mono (by with_reducible assumption) ?_)) | go_size)))
  · have H := Lib.hid (show decide (xs = ys) = false from decide_eq_false fun h => hl (by rw [h]))
    have hl' : ¬((xs.length : Int) = ys.length) := by omega
    go_enter Try.func15, Try.ntmps15
    go_wp2
    go_returns
    exact Ret.bool H.out.symm (by (repeat' (first | (with_reducible exact Below.refl _ _) | (with_reducible assumption) | (with_reducible refine Below.alloc ?_ ?_ _) | (with_reducible refine Below.drew ?_) | (with_reducible refine Below.setCell ?_ ?_ _) | (refine Below.trans ?_ (Below.mono (by with_reducible assumption) ?_)) | go_size)))
theorem rng17 (j : Nat) (h : j < 17) : (#[.int .i64 0, .int .i64 1, .int .i64 2, .int .i64 3, .int .i64 4, .int .i64 5, .int .i64 6, .int .i64 7, .int .i64 8, .int .i64 9, .int .i64 10, .int .i64 11, .int .i64 12, .int .i64 13, .int .i64 14, .int .i64 15, .int .i64 16] : Array Value)[j]? = some (.int .i64 (j : Int)) := by
  have : (#[.int .i64 0, .int .i64 1, .int .i64 2, .int .i64 3, .int .i64 4, .int .i64 5, .int .i64 6, .int .i64 7, .int .i64 8, .int .i64 9, .int .i64 10, .int .i64 11, .int .i64 12, .int .i64 13, .int .i64 14, .int .i64 15, .int .i64 16] : Array Value) = ((List.range 17).map fun (j : Nat) => Value.int .i64 (j : Int)).toArray := rfl
  rw [this]
  simp [h]
theorem rng23 (j : Nat) (h : j < 23) : (#[.int .i64 0, .int .i64 1, .int .i64 2, .int .i64 3, .int .i64 4, .int .i64 5, .int .i64 6, .int .i64 7, .int .i64 8, .int .i64 9, .int .i64 10, .int .i64 11, .int .i64 12, .int .i64 13, .int .i64 14, .int .i64 15, .int .i64 16, .int .i64 17, .int .i64 18, .int .i64 19, .int .i64 20, .int .i64 21, .int .i64 22] : Array Value)[j]? = some (.int .i64 (j : Int)) := by
  have : (#[.int .i64 0, .int .i64 1, .int .i64 2, .int .i64 3, .int .i64 4, .int .i64 5, .int .i64 6, .int .i64 7, .int .i64 8, .int .i64 9, .int .i64 10, .int .i64 11, .int .i64 12, .int .i64 13, .int .i64 14, .int .i64 15, .int .i64 16, .int .i64 17, .int .i64 18, .int .i64 19, .int .i64 20, .int .i64 21, .int .i64 22] : Array Value) = ((List.range 23).map fun (j : Nat) => Value.int .i64 (j : Int)).toArray := rfl
  rw [this]
  simp [h]
def limits : List Int := [1, 2, 4, 8, 16, 32, 64, 127, 400, 63, 8, 100, 5000, 2047, 150, 80, 12, 20, 120, 60, 8, 16, 30, 4000, 60, 8, 60, 300, 2147483647, -2147483648, 22]
theorem r_EqI_names (w : World) : Calls Try.prog 15 #[.slice (some ⟨w.heap.size, 0, none⟩) 31 31, .slice (some ⟨w.heap.size + 1, 0, none⟩) 31 31] ((w.alloc (.cells #[.int .i64 1, .int .i64 2, .int .i64 4, .int .i64 8, .int .i64 16, .int .i64 32, .int .i64 64, .int .i64 127, .int .i64 400, .int .i64 63, .int .i64 8, .int .i64 100, .int .i64 5000, .int .i64 2047, .int .i64 150, .int .i64 80, .int .i64 12, .int .i64 20, .int .i64 120, .int .i64 60, .int .i64 8, .int .i64 16, .int .i64 30, .int .i64 4000, .int .i64 60, .int .i64 8, .int .i64 60, .int .i64 300, .int .i64 2147483647, .int .i64 (-2147483648), .int .i64 22] 3)).alloc (.cells #[.int .i64 1, .int .i64 2, .int .i64 4, .int .i64 8, .int .i64 16, .int .i64 32, .int .i64 64, .int .i64 127, .int .i64 400, .int .i64 63, .int .i64 8, .int .i64 100, .int .i64 5000, .int .i64 2047, .int .i64 150, .int .i64 80, .int .i64 12, .int .i64 20, .int .i64 120, .int .i64 60, .int .i64 8, .int .i64 16, .int .i64 30, .int .i64 4000, .int .i64 60, .int .i64 8, .int .i64 60, .int .i64 300, .int .i64 2147483647, .int .i64 (-2147483648), .int .i64 22] 3)) (Ret (.bool true) ((w.alloc (.cells #[.int .i64 1, .int .i64 2, .int .i64 4, .int .i64 8, .int .i64 16, .int .i64 32, .int .i64 64, .int .i64 127, .int .i64 400, .int .i64 63, .int .i64 8, .int .i64 100, .int .i64 5000, .int .i64 2047, .int .i64 150, .int .i64 80, .int .i64 12, .int .i64 20, .int .i64 120, .int .i64 60, .int .i64 8, .int .i64 16, .int .i64 30, .int .i64 4000, .int .i64 60, .int .i64 8, .int .i64 60, .int .i64 300, .int .i64 2147483647, .int .i64 (-2147483648), .int .i64 22] 3)).alloc (.cells #[.int .i64 1, .int .i64 2, .int .i64 4, .int .i64 8, .int .i64 16, .int .i64 32, .int .i64 64, .int .i64 127, .int .i64 400, .int .i64 63, .int .i64 8, .int .i64 100, .int .i64 5000, .int .i64 2047, .int .i64 150, .int .i64 80, .int .i64 12, .int .i64 20, .int .i64 120, .int .i64 60, .int .i64 8, .int .i64 16, .int .i64 30, .int .i64 4000, .int .i64 60, .int .i64 8, .int .i64 60, .int .i64 300, .int .i64 2147483647, .int .i64 (-2147483648), .int .i64 22] 3))) := by
  have h := r_EqI (some ⟨w.heap.size, 0, none⟩) (some ⟨(w.alloc (.cells (limits.map (Value.int .i64)).toArray 3)).heap.size, 0, none⟩) 31 31 limits limits _ (by decide) (((lies_ints w 3 limits).below (Below.alloc (Below.refl _ _) (Nat.le_refl _) (.cells (limits.map (Value.int .i64)).toArray 3))).more (by simp [World.size_alloc])) (lies_ints _ 3 limits)
  rw [World.size_alloc, decide_eq_true rfl] at h
  exact h
set_option maxHeartbeats 1000000 in
theorem names_walk (w : World) : Calls Try.prog 3 #[] w (Ret (.bool true) w) := by
  go_enter Try.func3, Try.ntmps3
  go_wp2
  go_loopw [11] (fun v wr => ∃ k : Nat, v = .int .i64 k ∧ k ≤ 17 ∧ (∀ j, j < 17 → wr.cell? ⟨w.heap.size, j, none⟩ = some (.int .i64 (j : Int))) ∧ Below w.heap.size w wr ∧ w.heap.size < wr.heap.size) (fun v _ => (17 - intOf v).toNat)
  case atStart => exact ⟨0, rfl, by omega, fun j hj => (World.cell?_alloc_at _ _ _ _ rfl).trans (rng17 j hj), by (repeat' (first | (with_reducible exact Below.refl _ _) | (with_reducible assumption) | (with_reducible refine Below.alloc ?_ ?_ _) | (with_reducible refine Below.drew ?_) | (with_reducible refine Below.setCell ?_ ?_ _) | (refine Below.trans ?_ (Below.mono (by with_reducible assumption) ?_)) | go_size)), by simp [World.size_alloc]⟩
  case round =>
    obtain ⟨k, rfl, hk, hc, hbw, hbz⟩ := hrel
    have HC := Lib.hid hc
    clear hc
    rcases Nat.lt_or_ge k 17 with hlt | hge
    · have q0 := HC.out k hlt
      go_wp2
      go_roundw
      case rel => exact ⟨k + 1, by go_num, by omega, HC.out, by (repeat' (first | (with_reducible exact Below.refl _ _) | (with_reducible assumption) | (with_reducible refine Below.alloc ?_ ?_ _) | (with_reducible refine Below.drew ?_) | (with_reducible refine Below.setCell ?_ ?_ _) | (refine Below.trans ?_ (Below.mono (by with_reducible assumption) ?_)) | go_size)), hbz⟩
      case measure => simp [intOf]; omega
    · go_wp2
      go_loopw [23] (fun v wr' => ∃ k : Nat, v = .int .i64 k ∧ k ≤ 23 ∧ (∀ j, j < 23 → wr'.cell? ⟨wr.heap.size, j, none⟩ = some (.int .i64 (j : Int))) ∧ Below w.heap.size w wr' ∧ wr.heap.size < wr'.heap.size) (fun v _ => (23 - intOf v).toNat)
      case atStart => exact ⟨0, rfl, by omega, fun j hj => (World.cell?_alloc_at _ _ _ _ rfl).trans (rng23 j hj), by (repeat' (first | (with_reducible exact Below.refl _ _) | (with_reducible assumption) | (with_reducible refine Below.alloc ?_ ?_ _) | (with_reducible refine Below.drew ?_) | (with_reducible refine Below.setCell ?_ ?_ _) | (refine Below.trans ?_ (Below.mono (by with_reducible assumption) ?_)) | go_size)), by simp [World.size_alloc]⟩
      case round =>
        obtain ⟨k, rfl, hk, hc, hbw, hbz⟩ := hrel
        have HC := Lib.hid hc
        clear hc
        rcases Nat.lt_or_ge k 23 with hlt | hge
        · have q0 := HC.out k hlt
          go_wp2
          go_roundw
          case rel => exact ⟨k + 1, by go_num, by omega, HC.out, by (repeat' (first | (with_reducible exact Below.refl _ _) | (with_reducible assumption) | (with_reducible refine Below.alloc ?_ ?_ _) | (with_reducible refine Below.drew ?_) | (with_reducible refine Below.setCell ?_ ?_ _) | (refine Below.trans ?_ (Below.mono (by with_reducible assumption) ?_)) | go_size)), hbz⟩
          case measure => simp [intOf]; omega
        · go_wp2_with (go_at_call 15; (with_reducible refine (r_EqI_names _).mono ?_); intro e w1 hr; obtain ⟨rfl, hb, hc, hf, hz⟩ := hr.use; (try simp only [World.size_alloc, World.size_setCell, World.size_drew] at hz); clear hr)
          go_returns
          exact Ret.bool rfl (by (repeat' (first | (with_reducible exact Below.refl _ _) | (with_reducible assumption) | (with_reducible refine Below.alloc ?_ ?_ _) | (with_reducible refine Below.drew ?_) | (with_reducible refine Below.setCell ?_ ?_ _) | (refine Below.trans ?_ (Below.mono (by with_reducible assumption) ?_)) | go_size)))
theorem names_open {H : Type} (enc : TypeId × Value → H) (W : World) (base : Nat) (args : Array Value) (ds : List (DataW H)) (ps : List MemPlace)
    (hval : ∀ (j : Nat) t v, Try.f3.params[j]? = some t → args[j]? = some v → Value.okWide Try.prog W .any base t v)
    (hA : DataW.TrodAll enc Try.prog W 0 (fun _ => true) true Try.f3.params.toList args.toList ds ps) (hlt : ∀ x ∈ ps, x.block < W.heap.size)
    (hsz : (DataW.weightsEach Try.prog Try.f3.params.toList ds).all (· ≤ reachBytes) = true) :
    Calls Try.prog 3 args W fun e W' => e = .returned (.bool true) ∧ Below W.heap.size W W' := by
  rw [Try.params3] at hA hval
  have ha : args = #[] := by
    have h0 := (trodAll_nil hA).1
    cases args
    simp_all
  subst ha
  exact (names_walk W).mono fun e W' hr => hr
set_option maxRecDepth 100000 in
theorem names_lifted (os : Os) (started : os.Started) (H : Type) (enc : TypeId × Value → H) :
    ReturnsInHanded {} Try.checked os 3 .any (Rows.namesSpec.pre6 enc Try.prog Try.f3 [] false) (Rows.namesSpec.post enc Try.prog Try.f3 false true false false) :=
  lifted (C := Try.checked) (s := Rows.namesSpec) (by kernel_rfl) started (by kernel_rfl) Try.func3
    (ChangeSpec.witness6 (enc := enc) (C := Try.checked) false ⟨#[], #[], []⟩ 12 (by kernel_rfl) (by kernel_rfl) (by kernel_rfl) (by kernel_rfl))
    (by kernel_rfl) (by kernel_rfl) rfl rfl Try.underlying4
    (fun ds h => by match ds, h with | [], _ => exact ⟨rfl, rfl, rfl⟩)
    (fun W base args ds ps hval hA hlt hsz => names_open enc W base args ds ps hval hA hlt hsz)
theorem names_holds : Rows.NamesSaid :=
  OpenClaim.holds_of_wide 3 Try.f3 rfl rfl rfl rfl rfl rfl rfl ⟨rfl, rfl, rfl, rfl, rfl⟩ rfl rfl rfl rfl rfl (by kernel_rfl) Try.func3 (by kernel_rfl)
    (of_decide_eq_true (by kernel_rfl)) (by unfold Func.isWrapper; first | (rw [if_pos (by decide +kernel)]; kernel_rfl) | (rw [if_neg (by decide +kernel)]; exact ⟨rfl, rfl⟩))
    (fun os started H enc _ => names_lifted os started H enc)
#print axioms names_holds
end Go.Proofs.Ythfdpfapgommmaa
