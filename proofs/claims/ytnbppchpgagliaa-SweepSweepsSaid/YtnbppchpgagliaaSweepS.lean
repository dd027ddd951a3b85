/- A machine in place, under the broom. Conditions: none. -/
import Derived.Test.YtnbppchpgagliaaBroom
import Derived.Test.YtnbppchpgagliaaMStore
import Derived.Test.YtnbppchpgagliaaStepCk
namespace Go.Proofs.Ytnbppchpgagliaa
open Go.RowKit
set_option linter.unusedVariables false
set_option linter.unusedSimpArgs false
set_option maxRecDepth 100000

theorem setMany_take : ∀ (us ys : List Value) (p n : Nat), (setMany ys p us).take n = setMany (ys.take n) p us
  | [], _, _, _ => rfl
  | u :: us, ys, p, n => by rw [setMany, setMany, setMany_take us, List.take_set]
theorem setMany_size (us : List Value) (ys : List Value) (p : Nat) : (setMany ys p us).toArray.size = ys.length := by rw [List.size_toArray, setMany_length]
section
variable {w w' : World} {bb g off : Nat} {tB : TypeId} {cnt : Array Value} {us : List Value}
theorem Stroke.below (h : Stroke w w' bb g off tB cnt us) {B : Nat} {w0 : World} (hb : Below B w0 w) (hB : B ≤ w.heap.size) (h1 : B ≤ bb) (h2 : B ≤ g) : Below B w0 w' :=
  hb.trans ⟨h.os, h.tape, h.output, h.size, fun k hk => h.block k (by omega) (by omega) (by omega)⟩
theorem Stroke.box (h : Stroke w w' bb g off tB cnt us) {k : Nat} {t : TypeId} {cs : Array Value} (hb : Box w k t cs) (h1 : k ≠ bb) (h2 : k ≠ g) : Box w' k t cs := hb.keep (h.block k hb.lt h1 h2)
theorem Stroke.own {α : Type} {enc : α → List Value} {e : TypeId} {size base : Nat} {v : Value} {xs : List α} (h : Stroke w w' bb g off tB cnt us) (ho : Own enc e size w base v xs) (h1 : v.ownBlock ≠ some bb) (h2 : v.ownBlock ≠ some g) : Own enc e size w' base v xs :=
  ho.keep fun k hk => h.block k (ho.lt k hk).2 (fun he => h1 (by rw [hk, he])) (fun he => h2 (by rw [hk, he]))
theorem Stroke.ownAt {α : Type} {enc : α → List Value} {e : TypeId} {size base n c : Nat} {xs ys : List α} (h : Stroke w w' bb g off tB cnt us) (ho : Own enc e size w base (.slice (some ⟨g, 0, none⟩) n c) xs) (hl : ys.length = xs.length)
    (hs : setMany (xs.flatMap enc) off us = ys.flatMap enc) : Own enc e size w' base (.slice (some ⟨g, 0, none⟩) n c) ys := by
  unfold Own World.ownsRow at ho ⊢
  rw [hl]
  refine ⟨by rw [← hs, setMany_length]; exact ho.1, ?_⟩
  rcases ho.2 with ⟨hv, _⟩ | ⟨g', cap, cur, hv, hb, hg, hnc, hcm, hsz, htk⟩
  · cases hv
  · injection hv with hA hn hc
    injection hA with hA
    injection hA with hg0
    subst hg0 hn hc
    refine .inr ⟨g, c, _, rfl, hb, h.row e cur hg, hnc, hcm, by rw [setMany_size, Array.length_toList]; exact hsz, ?_⟩
    show (setMany cur.toList off us).take _ = _
    rw [setMany_take, htk, hs]
end
theorem flat_set_part {α : Type} {enc : α → List Value} {size : Nat} {xs : List α} (hl : ∀ x, (enc x).length = size) {i j : Nat} {x y : α} {us : List Value} (hi : xs[i]? = some x) (hj : j + us.length ≤ size) (hy : setMany (enc x) j us = enc y) :
    setMany (xs.flatMap enc) (i * size + j) us = (xs.set i y).flatMap enc := by
  induction xs generalizing i with
  | nil => simp at hi
  | cons z zs ih =>
    match i, hi with
    | 0, hi =>
      simp at hi
      subst hi
      rw [List.set_cons_zero, List.flatMap_cons, List.flatMap_cons, Nat.zero_mul, Nat.zero_add, setMany_left _ _ _ _ (by rw [hl]; exact hj), hy]
    | i + 1, hi =>
      simp at hi
      rw [List.set_cons_succ, List.flatMap_cons, List.flatMap_cons, setMany_right _ _ _ _ (by rw [hl, Nat.succ_mul]; omega), hl, Nat.succ_mul, show i * size + size + j - size = i * size + j by omega, ih hi]
theorem machL_setPart {regs : List Val} {k : Key} {a b c : Value} (hl : regs.length = 8) {i : Nat} (hi : i < 8) (y : Val) : setMany (machL regs k a b c).toArray.toList (i * 7) (encV y) = machL (regs.set i y) k a b c := machL_putReg hl hi y
theorem machL_setCode {regs : List Val} {k k' : Key} {a b c : Value} (hl : regs.length = 8) : setMany (machL regs k a b c).toArray.toList 56 (encK k') = machL regs k' a b c := machL_putCode hl
theorem machV_own {w : World} {B1 B2 B3 : Nat} {tV tF tI : TypeId} {va vs vo : Value} {m : Mach} (h1 : Own encV tV 7 w B1 va m.mem) (h2 : Own encF tF 12 w B2 vs m.stack) (h3 : Own encI tI 1 w B3 vo m.out) (h8 : m.regs.length = 8) : MachV w w.heap.size (machL m.regs m.code va vs vo).toArray m := by
  obtain ⟨A, c, rfl, hL⟩ := h1.lies (fun _ => rfl)
  obtain ⟨S, s, rfl, hM⟩ := h2.lies (fun _ => rfl)
  obtain ⟨O, o, rfl, hN⟩ := h3.lies (fun _ => rfl)
  exact ⟨⟨A, S, O, c, s, o, rfl, h1.cap.1, h1.cap.2, h2.cap.1, h2.cap.2, h3.cap.1, h3.cap.2, hL, hM, hN⟩, h8⟩
/-- where a machine's slices lie: none in the blocks of the call's own variables, no two in one -/
structure Apart (g r bb : Nat) (va vs vo : Value) : Prop where
  a1 : va.ownBlock ≠ some g
  a2 : va.ownBlock ≠ some r
  a3 : va.ownBlock ≠ some bb
  s1 : vs.ownBlock ≠ some g
  s2 : vs.ownBlock ≠ some r
  s3 : vs.ownBlock ≠ some bb
  o1 : vo.ownBlock ≠ some g
  o2 : vo.ownBlock ≠ some r
  o3 : vo.ownBlock ≠ some bb
  ms : ∀ k, va.ownBlock = some k → vs.ownBlock ≠ some k
  mo : ∀ k, va.ownBlock = some k → vo.ownBlock ≠ some k
  so : ∀ k, vs.ownBlock = some k → vo.ownBlock ≠ some k
  gb : g ≠ bb
  rb : r ≠ bb
  gr : g ≠ r
/-- the machine m lies in block g, its slices' values are va, vs, vo -/
structure InPl (w0 w : World) (B g r bb : Nat) (va vs vo : Value) (base n many : Int) (m : Mach) : Prop where
  below : Below B w0 w
  lo : B ≤ w.heap.size ∧ B ≤ g ∧ B ≤ bb
  box : Box w g 45 (machL m.regs m.code va vs vo).toArray
  res : Box w r 45 zeroMC
  br : Box w bb 104 #[.int .i64 base, .int .i64 n, .int .i64 many]
  mem : Own encV 35 7 w B va m.mem
  stk : Own encF 95 12 w B vs m.stack
  out : Own encI 3 1 w B vo m.out
  regs : m.regs.length = 8
section
variable {w0 w w' : World} {B g r bb : Nat} {va vs vo : Value} {base n many many' : Int} {m : Mach}
theorem InPl.code (h : InPl w0 w B g r bb va vs vo base n many m) (hd : Apart g r bb va vs vo) {k : Key} (hs : Stroke w w' bb g 56 104 #[.int .i64 base, .int .i64 n, .int .i64 many'] (encK k)) :
    InPl w0 w' B g r bb va vs vo base n many' { m with code := k } :=
  ⟨hs.below h.below h.lo.1 h.lo.2.2 h.lo.2.1, ⟨Nat.le_trans h.lo.1 hs.size, h.lo.2⟩, by have := hs.row _ _ h.box; rwa [machL_setCode h.regs] at this, hs.box h.res hd.rb (Ne.symm hd.gr), hs.cnt, hs.own h.mem hd.a3 hd.a1, hs.own h.stk hd.s3 hd.s1, hs.own h.out hd.o3 hd.o1, h.regs⟩
theorem InPl.reg (h : InPl w0 w B g r bb va vs vo base n many m) (hd : Apart g r bb va vs vo) {i : Nat} (hi : i < 8) {y : Val} (hs : Stroke w w' bb g (i * 7) 104 #[.int .i64 base, .int .i64 n, .int .i64 many'] (encV y)) :
    InPl w0 w' B g r bb va vs vo base n many' { m with regs := m.regs.set i y } :=
  ⟨hs.below h.below h.lo.1 h.lo.2.2 h.lo.2.1, ⟨Nat.le_trans h.lo.1 hs.size, h.lo.2⟩, by have := hs.row _ _ h.box; rwa [machL_setPart h.regs hi] at this, hs.box h.res hd.rb (Ne.symm hd.gr), hs.cnt, hs.own h.mem hd.a3 hd.a1, hs.own h.stk hd.s3 hd.s1, hs.own h.out hd.o3 hd.o1, by rw [List.length_set]; exact h.regs⟩
theorem InPl.cell {q nn c : Nat} (h : InPl w0 w B g r bb (.slice (some ⟨q, 0, none⟩) nn c) vs vo base n many m) (hd : Apart g r bb (.slice (some ⟨q, 0, none⟩) nn c) vs vo) {i : Nat} {x y : Val} (hi : m.mem[i]? = some x) (hs : Stroke w w' bb q (i * 7) 104 #[.int .i64 base, .int .i64 n, .int .i64 many'] (encV y)) :
    InPl w0 w' B g r bb (.slice (some ⟨q, 0, none⟩) nn c) vs vo base n many' { m with mem := m.mem.set i y } :=
  have hq : B ≤ q := (h.mem.lt q rfl).1
  ⟨hs.below h.below h.lo.1 h.lo.2.2 hq, ⟨Nat.le_trans h.lo.1 hs.size, h.lo.2⟩, hs.box h.box hd.gb (fun e => hd.a1 (by rw [e]; rfl)), hs.box h.res hd.rb (fun e => hd.a2 (by rw [e]; rfl)), hs.cnt,
    hs.ownAt h.mem (by rw [List.length_set]) (flat_set_all (enc := encV) (size := 7) (fun _ => rfl) (List.getElem?_eq_some_iff.1 hi).1 y), hs.own h.stk hd.s3 (hd.ms q rfl), hs.own h.out hd.o3 (hd.mo q rfl), h.regs⟩
theorem InPl.frame {q nn c : Nat} (h : InPl w0 w B g r bb va (.slice (some ⟨q, 0, none⟩) nn c) vo base n many m) (hd : Apart g r bb va (.slice (some ⟨q, 0, none⟩) nn c) vo) {i j : Nat} {x y : Frame} {us : List Value} (hi : m.stack[i]? = some x) (hj : j + us.length ≤ 12) (hy : setMany (encF x) j us = encF y)
    (hs : Stroke w w' bb q (i * 12 + j) 104 #[.int .i64 base, .int .i64 n, .int .i64 many'] us) :
    InPl w0 w' B g r bb va (.slice (some ⟨q, 0, none⟩) nn c) vo base n many' { m with stack := m.stack.set i y } :=
  have hq : B ≤ q := (h.stk.lt q rfl).1
  ⟨hs.below h.below h.lo.1 h.lo.2.2 hq, ⟨Nat.le_trans h.lo.1 hs.size, h.lo.2⟩, hs.box h.box hd.gb (fun e => hd.s1 (by rw [e]; rfl)), hs.box h.res hd.rb (fun e => hd.s2 (by rw [e]; rfl)), hs.cnt,
    hs.own h.mem hd.a3 (fun e => hd.ms q e rfl), hs.ownAt h.stk (by rw [List.length_set]) (flat_set_part (enc := encF) (size := 12) (fun _ => rfl) hi hj hy), hs.own h.out hd.o3 (hd.so q rfl), h.regs⟩
theorem InPl.val (h : InPl w0 w B g r bb va vs vo base n many m) : MachV w w.heap.size (machL m.regs m.code va vs vo).toArray m := machV_own h.mem h.stk h.out h.regs
end
end Go.Proofs.Ytnbppchpgagliaa
