/- A machine in memory: its registers, its key and its slices written in place. Conditions: none. -/
import Derived.Test.YtbkjhdohkdeniaaDoorMach
namespace Go.Proofs.YtbkjhdohkdeniaaDoor
open Go.RowKit
set_option linter.unusedVariables false
set_option linter.unusedSimpArgs false
set_option maxRecDepth 100000

section
variable {w w' : World} {g : Nat} {t : TypeId} {cs : Array Value}
theorem Box.setCells : ∀ (us : List Value) (p : Nat) (cs : Array Value) (w : World), Box w g t cs → Box (w.setCells g p us) g t (setMany cs.toList p us).toArray
  | [], _, cs, _, h => by rw [setMany]; exact h
  | u :: us, p, cs, w, h => by
    have := Box.setCells us (p + 1) _ _ (h.set_ p u)
    rw [Array.toList_setIfInBounds] at this
    exact this
end
section
variable {P : Program}
/-- a struct is stored into the middle of a block known whole -/
theorem wpList_store_part {ops : Array Oper} {rest : List Oper} {o : Oper} {a : Act} {w : World} {Q : Exit → Act → World → Prop} (hgd : o.guard = none) (ty : TypeId) (x y : Operand) (ho : o.op = .store ty x y)
    {g off : Nat} {t : TypeId} {old cells : Array Value} (hg : Box w g t old) (hx : a.eval x = .pointer (some ⟨g, off, none⟩)) (hy : a.eval y = .agg cells) {new : List Value} (hnew : setMany old.toList off cells.toList = new) (hlt : off + cells.size ≤ old.size) (hi : (P.info? ty).map (·.size) = some cells.size)
    (h1 : cells.all (·.oneCell') = true)
    (h : ∀ w', Box w' g t new.toArray → w.grownBy w' (some g) → w'.heap.size = w.heap.size → wpList P ops Q rest (a.put o.dst undef) w') : wpList P ops Q (o :: rest) a w := by
  subst hnew
  refine wpList_store_mid hgd ty x y ho g off cells hx hy (fun j hj => ?_) hi h1 ?_
  · rw [hg.cell, hg.frozen, Array.getElem?_eq_getElem (by omega)]
    exact ⟨rfl, rfl⟩
  · obtain ⟨h2, h3⟩ := grown_setCells (g := g) cells.toList off w
    exact h _ (hg.setCells _ _ _ _) h2 h3
/-- the same as a step of a region that draws its order -/
theorem step_store_part {ops : Array Oper} {o : Oper} {a : Act} {w : World} {K : Act → World → Prop} {Q : Exit → Act → World → Prop} {G : Prop} (hgd : o.guard = none) (ty : TypeId) (x y : Operand) (ho : o.op = .store ty x y)
    {g off : Nat} {t : TypeId} {old cells : Array Value} (hg : Box w g t old) (hx : a.eval x = .pointer (some ⟨g, off, none⟩)) (hy : a.eval y = .agg cells) {new : List Value} (hnew : setMany old.toList off cells.toList = new) (hlt : off + cells.size ≤ old.size) (hi : (P.info? ty).map (·.size) = some cells.size)
    (h1 : cells.all (·.oneCell') = true)
    (h : ∀ w', Box w' g t new.toArray → w.grownBy w' (some g) → w'.heap.size = w.heap.size → K (a.put o.dst undef) w') :
    if Region.wanted o (yielded ops a.tmps) = true then Oper.wp P o a w K Q else G := by
  have hw : Region.wanted o (yielded ops a.tmps) = true := by simp [Region.wanted, hgd]
  subst hnew
  rw [if_pos hw]
  refine wp_store_mid ty x y ho g off cells hx hy (fun j hj => ?_) hi h1 ?_
  · rw [hg.cell, hg.frozen, Array.getElem?_eq_getElem (by omega)]
    exact ⟨rfl, rfl⟩
  · obtain ⟨h2, h3⟩ := grown_setCells (g := g) cells.toList off w
    exact h _ (hg.setCells _ _ _ _) h2 h3
end
section
variable {regs : List Val} {k k' : Key} {a b c : Value}
theorem flat8 (hl : regs.length = 8) : (regs.flatMap encV).length = 56 := by rw [flat_len (enc := encV) (size := 7) (fun _ => rfl), hl]
theorem machL_setReg (hl : regs.length = 8) {i j : Nat} {x y : Val} {u : Value} (hi : regs[i]? = some x) (hj : j < 7) (hy : encV y = (encV x).set j u) : (machL regs k a b c).set (i * 7 + j) u = machL (regs.set i y) k a b c := by
  have h := flat_set (enc := encV) (size := 7) (fun _ => rfl) hi hj hy
  have h8 := flat8 hl
  have := (List.getElem?_eq_some_iff.1 hi).1
  unfold machL
  rw [h, List.set_append_left (h := by omega)]
theorem setMany_left : ∀ (us xs ys : List Value) (p : Nat), p + us.length ≤ xs.length → setMany (xs ++ ys) p us = setMany xs p us ++ ys
  | [], _, _, _, _ => rfl
  | u :: us, xs, ys, p, h => by
    simp only [List.length_cons] at h
    rw [setMany, setMany, List.set_append_left (h := by omega), setMany_left us _ _ _ (by rw [List.length_set]; omega)]
theorem setMany_right : ∀ (us xs ys : List Value) (p : Nat), xs.length ≤ p → setMany (xs ++ ys) p us = xs ++ setMany ys (p - xs.length) us
  | [], _, _, _, _ => rfl
  | u :: us, xs, ys, p, h => by
    rw [setMany, setMany, List.set_append_right (h := h), setMany_right us _ _ _ (by omega), show p + 1 - xs.length = p - xs.length + 1 by omega]
theorem machL_putReg (hl : regs.length = 8) {i : Nat} (hi : i < 8) (y : Val) : setMany (machL regs k a b c) (i * 7) (encV y) = machL (regs.set i y) k a b c := by
  have h8 := flat8 hl
  unfold machL
  rw [setMany_left _ _ _ _ (by rw [h8]; show i * 7 + 7 ≤ 56; omega), flat_set_all (enc := encV) (size := 7) (fun _ => rfl) (by omega)]
theorem machL_putCode (hl : regs.length = 8) : setMany (machL regs k a b c) 56 [.int .i64 k'.perm, .int .i64 k'.base, .int .i64 k'.len, .int .i64 k'.pos, .int .i64 k'.tag] = machL regs k' a b c := by
  have h8 := flat8 hl
  unfold machL
  rw [setMany_right _ _ _ _ (by omega), h8]
  rfl
theorem machL_set (hl : regs.length = 8) (j : Nat) (u : Value) : (machL regs k a b c).set (56 + j) u = regs.flatMap encV ++ (([.int .i64 k.perm, .int .i64 k.base, .int .i64 k.len, .int .i64 k.pos, .int .i64 k.tag] : List Value) ++ [a, b, c]).set j u := by
  have h8 := flat8 hl
  unfold machL
  rw [List.set_append_right (h := by omega), h8, show 56 + j - 56 = j by omega]
theorem machL_tag (hl : regs.length = 8) (n : Int) : (machL regs k a b c).set 60 (.int .i64 n) = machL regs { k with tag := n } a b c := machL_set hl 4 _
theorem machL_pos (hl : regs.length = 8) (n : Int) : (machL regs k a b c).set 59 (.int .i64 n) = machL regs { k with pos := n } a b c := machL_set hl 3 _
theorem machL_mem (hl : regs.length = 8) (u : Value) : (machL regs k a b c).set 61 u = machL regs k u b c := machL_set hl 5 _
theorem machL_stack (hl : regs.length = 8) (u : Value) : (machL regs k a b c).set 62 u = machL regs k a u c := machL_set hl 6 _
theorem machL_out (hl : regs.length = 8) (u : Value) : (machL regs k a b c).set 63 u = machL regs k a b u := machL_set hl 7 _
theorem machL_one (hl : regs.length = 8) (ha : a.oneCell' = true) (hb : b.oneCell' = true) (hc : c.oneCell' = true) : (machL regs k a b c).toArray.all (·.oneCell') = true := by
  rw [Array.all_eq_true_iff_forall_mem]
  intro u hu
  simp only [List.mem_toArray, machL, List.mem_append, List.mem_flatMap, List.mem_cons, List.not_mem_nil, or_false] at hu
  rcases hu with ⟨v, _, hv⟩ | (rfl | rfl | rfl | rfl | rfl) | rfl | rfl | rfl
  · simp only [encV, List.mem_cons, List.not_mem_nil, or_false] at hv
    rcases hv with rfl | rfl | rfl | rfl | rfl | rfl | rfl <;> rfl
  all_goals first | rfl | assumption
end
theorem KeptB.grown' {w W W' : World} {bs : List (Array Value × TypeId)} {row : Option Nat} (h : KeptB w bs W) (hg : W.grownBy W' row) (hr : ∀ k, row = some k → w.heap.size + bs.length ≤ k) : KeptB w bs W' :=
  ⟨h.below.grown hg (Nat.le_trans (Nat.le_add_right _ _) h.size) (fun k hk => Nat.le_trans (Nat.le_add_right _ _) (hr k hk)), Nat.le_trans h.size hg.size, fun i c hi => (h.box i c hi).grown hg (fun he => by
    have h1 := hr _ he.symm
    have h2 := (List.getElem?_eq_some_iff.1 hi).1
    omega)⟩
theorem grown_setCell (w : World) (g i : Nat) (u : Value) : w.grownBy (w.setCell ⟨g, i, none⟩ u) (some g) := ⟨rfl, rfl, rfl, by simp [World.size_setCell], fun k hk hne => Below.heap_setCell w _ u k (fun e => hne (by rw [e]))⟩
theorem Box.setReg {w : World} {g : Nat} {t : TypeId} {regs : List Val} {k : Key} {a b c : Value} (h : Box w g t (machL regs k a b c).toArray) (hl : regs.length = 8) {i j : Nat} {x y : Val} {u : Value} (hi : regs[i]? = some x) (hj : j < 7) (hy : encV y = (encV x).set j u) :
    Box (w.setCell ⟨g, i * 7 + j, none⟩ u) g t (machL (regs.set i y) k a b c).toArray := by
  have := h.set_ (i * 7 + j) u
  rwa [List.setIfInBounds_toArray, machL_setReg hl hi hj hy] at this
/-- what a function that hands back a machine and a number leaves -/
def RetMach (w : World) (m : Mach) (f : Value → Value) : Ending → World → Prop := fun ed w' =>
  ∃ mc, ed = .returned (f (.agg mc)) ∧ MachV w' w'.heap.size mc m ∧ Below w.heap.size w w'
def Mach.zero : Mach := ⟨List.replicate 8 ⟨false, 0, Key.zero⟩, Key.zero, [], [], []⟩
def nilS : Value := .slice none 0 0
theorem MachV.zero (w : World) (B : Nat) : MachV w B (machL (List.replicate 8 ⟨false, 0, Key.zero⟩) Key.zero nilS nilS nilS).toArray Mach.zero :=
  ⟨⟨none, none, none, 0, 0, 0, rfl, by decide, by decide, by decide, by decide, by decide, by decide, Lies.nil_, Lies.nil_, Lies.nil_⟩, rfl⟩
end Go.Proofs.YtbkjhdohkdeniaaDoor
