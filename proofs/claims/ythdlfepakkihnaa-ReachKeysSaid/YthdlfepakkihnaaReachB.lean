/- The order of keys by which the program sorts: its closure, a strict weak order. Conditions: none. -/
import Derived.Test.YthdlfepakkihnaaReachA
import Derived.Test.YthdlfepakkihnaaShelf
import Derived.Test.YthdlfepakkihnaaShelfS
import Derived.StillTailTactics
namespace Go.Proofs.Ythdlfepakkihnaa
open Go Go.RowKit Go.Shelf Go.Sort
set_option linter.unusedVariables false
set_option linter.unusedSimpArgs false
set_option maxRecDepth 100000
def orL : List Int → Int
  | [] => 0
  | x :: l => if x != 0 then x else orL l
def cmpK (a b : Key) : Int := orL [Lib.compareInt a.base b.base, Lib.compareInt a.len b.len, Lib.compareInt a.perm b.perm, Lib.compareInt a.tag b.tag, Lib.compareInt a.pos b.pos]
theorem orL_at {l : List Int} {k : Nat} {x : Int} (h : l[k]? = some x) : orL (l.drop k) = if x != 0 then x else orL (l.drop (k + 1)) := by
  obtain ⟨hk, he⟩ := List.getElem?_eq_some_iff.1 h
  rw [List.drop_eq_getElem_cons hk, he, orL]
theorem c_Or (A : Option Addr) (c : Nat) (xs : List Int) (B : Nat) (w : World) (hL : Lies encI 1 w B A xs) (hn : xs.length ≤ 1000) :
    Calls Try.prog 56 #[.slice A xs.length c] w (fun e w' => e = .returned (.int .i64 (orL xs)) ∧ w = w') := by
  have HL := Lib.hid hL
  clear hL
  go_enter Try.func56, Try.ntmps56
  go_wp2_with fail
  go_loop [8] (fun i => ∃ k : Nat, k ≤ xs.length ∧ i = .int .i64 k ∧ orL xs = orL (xs.drop k)) (fun i => xs.length - (intOf i).toNat)
  case atStart => exact ⟨0, by omega, rfl, rfl⟩
  case round =>
    obtain ⟨k, hk, rfl, ho⟩ := hrel
    have HO := Lib.hid ho
    clear ho
    rcases Nat.lt_or_ge k xs.length with hlt | hge
    · obtain ⟨b, o, x, rfl, -, hx, q0⟩ := HL.out.cellsI hlt
      have HX := Lib.hid hx
      clear hx
      by_cases h0 : x = 0
      · subst h0
        go_wp2_with fail
        go_round
        case rel => exact ⟨k + 1, by omega, by go_num, by rw [HO.out, orL_at HX.out]; rfl⟩
        case measure => simp [intOf]; omega
      · have h1 : (x != 0) = true := by simpa using h0
        go_wp2_with fail
        go_returns
        exact ⟨by rw [HO.out, orL_at HX.out, if_pos h1]; rfl, rfl⟩
    · have hdk : decide (k < xs.length) = false := by simp; omega
      have H := Lib.hid (show orL xs = 0 by rw [HO.out, List.drop_of_length_le hge]; rfl)
      go_wp2_with fail
      go_returns
      exact ⟨by rw [H.out]; rfl, rfl⟩
theorem wp_region_tailK {P : Program} {id : Nat} {Q : Exit → Act → World → Prop} {a : Act} {w : World} {l : List Oper} (n : Nat) (hm : P.follows .mixedOrders = true) (hB : Region.lexTailB .any l.toArray n = true)
    (h : wpStill P l.toArray w.drew (fun a' => wpList P l.toArray Q (l.drop n) a' w.drew) (l.take n) a) : (Code.region id l.toArray true).wp P Q a w := wp_region_still_tail n hm hB h
set_option maxHeartbeats 1000000 in
theorem c_keyCmp (a b : Key) (W : World) : Calls Try.prog 55 #[.agg #[.int .i64 a.perm, .int .i64 a.base, .int .i64 a.len, .int .i64 a.pos, .int .i64 a.tag], .agg #[.int .i64 b.perm, .int .i64 b.base, .int .i64 b.len, .int .i64 b.pos, .int .i64 b.tag]] W (fun e w' => e = .returned (.int .i64 (cmpK a b)) ∧ ∃ q os', w' = grow (W.drewN q) os') := by
  unfold cmpK
  have H1 := fun W' => Try.cmp_Compare_int a.base b.base W'
  have H2 := fun W' => Try.cmp_Compare_int a.len b.len W'
  have H3 := fun W' => Try.cmp_Compare_int a.perm b.perm W'
  have H4 := fun W' => Try.cmp_Compare_int a.tag b.tag W'
  have H5 := fun W' => Try.cmp_Compare_int a.pos b.pos W'
  generalize Lib.compareInt a.base b.base = r1 at H1 ⊢
  generalize Lib.compareInt a.len b.len = r2 at H2 ⊢
  generalize Lib.compareInt a.perm b.perm = r3 at H3 ⊢
  generalize Lib.compareInt a.tag b.tag = r4 at H4 ⊢
  generalize Lib.compareInt a.pos b.pos = r5 at H5 ⊢
  replace H1 := Lib.hid H1
  replace H2 := Lib.hid H2
  replace H3 := Lib.hid H3
  replace H4 := Lib.hid H4
  replace H5 := Lib.hid H5
  obtain ⟨r, hr⟩ : ∃ r, orL [r1, r2, r3, r4, r5] = r := ⟨_, rfl⟩
  rw [hr]
  have HR := Lib.hid hr
  clear hr
  go_enter Try.func55, Try.ntmps55
  go_wp2_with fail
  refine wp_region_tailK 25 (by kernel_rfl) (by kernel_rfl) ?_
  simp only [List.take_succ_cons, List.take_zero, List.drop_succ_cons, List.drop_zero]
  still_step
  still_step
  still_step
  still_step
  still_call (H1.out _)
  still_step
  still_step
  still_step
  still_step
  still_call (H2.out _)
  still_step
  still_step
  still_step
  still_step
  still_call (H3.out _)
  still_step
  still_step
  still_step
  still_step
  still_call (H4.out _)
  still_step
  still_step
  still_step
  still_step
  still_call (H5.out _)
  refine wpStill_nil ?_
  have hLs : ∀ W0 : World, Lies encI 1 ((W0.alloc (.cells #[.int .i64 r1, .int .i64 r2, .int .i64 r3, .int .i64 r4, .int .i64 r5] 3)).drew) (W0.heap.size + 1) (some ⟨W0.heap.size, 0, none⟩) [r1, r2, r3, r4, r5] := fun W0 hn => by
    refine ⟨W0.heap.size, 0, rfl, by omega, fun k x hx j hj => ?_⟩
    obtain rfl : j = 0 := by omega
    have hb := (Box.new W0 3 #[.int .i64 r1, .int .i64 r2, .int .i64 r3, .int .i64 r4, .int .i64 r5] rfl).cell (0 + k * 1 + 0)
    refine Eq.trans (show _ = _ from hb) ?_
    match k, hx with
    | 0, hx => cases hx; rfl
    | 1, hx => cases hx; rfl
    | 2, hx => cases hx; rfl
    | 3, hx => cases hx; rfl
    | 4, hx => cases hx; rfl
  have HLs := Lib.hid (show Calls Try.prog 56 #[.slice (some ⟨W.heap.size + 1 + 1, 0, none⟩) 5 5] ((((W.alloc (.cells #[.int .i64 a.perm, .int .i64 a.base, .int .i64 a.len, .int .i64 a.pos, .int .i64 a.tag] 23)).alloc (.cells #[.int .i64 b.perm, .int .i64 b.base, .int .i64 b.len, .int .i64 b.pos, .int .i64 b.tag] 23)).alloc (.cells #[.int .i64 r1, .int .i64 r2, .int .i64 r3, .int .i64 r4, .int .i64 r5] 3)).drew) (fun e w' => e = .returned (.int .i64 (orL [r1, r2, r3, r4, r5])) ∧ ((((W.alloc (.cells #[.int .i64 a.perm, .int .i64 a.base, .int .i64 a.len, .int .i64 a.pos, .int .i64 a.tag] 23)).alloc (.cells #[.int .i64 b.perm, .int .i64 b.base, .int .i64 b.len, .int .i64 b.pos, .int .i64 b.tag] 23)).alloc (.cells #[.int .i64 r1, .int .i64 r2, .int .i64 r3, .int .i64 r4, .int .i64 r5] 3)).drew) = w') by
    have h := c_Or _ 5 [r1, r2, r3, r4, r5] _ _ (hLs ((W.alloc (.cells #[.int .i64 a.perm, .int .i64 a.base, .int .i64 a.len, .int .i64 a.pos, .int .i64 a.tag] 23)).alloc (.cells #[.int .i64 b.perm, .int .i64 b.base, .int .i64 b.len, .int .i64 b.pos, .int .i64 b.tag] 23))) (by simp)
    rw [World.size_alloc, World.size_alloc] at h
    exact h)
  clear hLs H1 H2 H3 H4 H5
  rw [HR.out] at HLs
  go_wp2_with (first | (go_at_call 56; (with_reducible refine HLs.out.mono ?_); rintro e w' ⟨rfl, rfl⟩) | fail)
  go_returns
  exact ⟨rfl, 1, _, by rw [alloc_eq_grow, alloc_eq_grow, alloc_eq_grow, grow_grow, grow_grow]; rfl⟩
end Go.Proofs.Ythdlfepakkihnaa
