/- What the parts say: What a call owns while it runs, as one list: blocks known whole, rows that are slices of its own; how each operation turns the list. Conditions: none. -/
import Derived.Test.YtbkjhdohkdeniaaGreatDoorP11
import Derived.Test.YtbkjhdohkdeniaaGreatDoorP10
import Derived.Test.YtbkjhdohkdeniaaGreatDoorP12
import Derived.Great.BuildSlice
set_option linter.unusedVariables false
set_option linter.unusedSimpArgs false
namespace Go.Proofs.YtbkjhdohkdeniaaGreatDoor
open Go.RowKit
set_option maxRecDepth 100000

inductive Res where
  | box (g : Nat) (t : TypeId) (cs : Array Value)
  | row (e : TypeId) (size : Nat) (v : Value) (n : Nat) (us : List Value)
  | obj (g : Nat) (o : Obj)
def Res.blk : Res → Option Nat
  | .box g _ _ => some g
  | .row _ _ v _ _ => v.ownBlock
  | .obj g _ => some g
def Res.ok (w : World) : Res → Prop
  | .box g t cs => Box w g t cs
  | .row e s v n us => w.ownsRow 0 e s v n us
  | .obj g o => w.heap[g]? = some o
structure ButT (T : Nat → Prop) (w0 w : World) : Prop where
  os : w.os = w0.os
  tape : w.tape = w0.tape
  output : w.output = w0.output
  size : w0.heap.size ≤ w.heap.size
  block : ∀ k, k < w0.heap.size → ¬ T k → w.heap[k]? = w0.heap[k]?
structure InvT (T : Nat → Prop) (w0 : World) (rs : List Res) (w : World) : Prop where
  but : ButT T w0 w
  ok : ∀ (i : Nat) r, rs[i]? = some r → r.ok w
  low : ∀ (i : Nat) r, rs[i]? = some r → ∀ k, r.blk = some k → T k ∨ w0.heap.size ≤ k
  apart : ∀ (i j : Nat) r s, i ≠ j → rs[i]? = some r → rs[j]? = some s → ∀ k, r.blk = some k → s.blk ≠ some k
abbrev Inv := InvT fun _ => False
theorem Res.ok.lt {w : World} {r : Res} (h : r.ok w) {k : Nat} (hk : r.blk = some k) : k < w.heap.size := by
  cases r with
  | box g t cs => cases hk; exact Box.lt h
  | row e s v n us => exact (World.ownsRow.lt h k hk).2
  | obj g o => cases hk; exact (Array.getElem?_eq_some_iff.1 h).1
theorem Res.ok.keep {w w' : World} {r : Res} (h : r.ok w) (hk : ∀ k, r.blk = some k → w'.heap[k]? = w.heap[k]?) : r.ok w' := by
  cases r with
  | box g t cs => exact Box.keep h (hk g rfl)
  | row e s v n us =>
    refine ⟨h.1, ?_⟩
    rcases h.2 with hn | ⟨g, cap, cur, rfl, hb, hg, rest⟩
    · exact .inl hn
    · exact .inr ⟨g, cap, cur, rfl, hb, (hk g rfl).trans hg, rest⟩
  | obj g o => exact (hk g rfl).trans h
theorem ButT.refl {T : Nat → Prop} (w : World) : ButT T w w := ⟨rfl, rfl, rfl, Nat.le_refl _, fun _ _ _ => rfl⟩
theorem ButT.on {T : Nat → Prop} {w0 w w' : World} (h : ButT T w0 w) (hb : Below w.heap.size w w') : ButT T w0 w' :=
  ⟨hb.os.trans h.os, hb.tape.trans h.tape, hb.output.trans h.output, Nat.le_trans h.size hb.size, fun k hk ht => (hb.block k (Nat.lt_of_lt_of_le hk h.size)).trans (h.block k hk ht)⟩
theorem ButT.grown {T : Nat → Prop} {w0 w w' : World} {row : Option Nat} (h : ButT T w0 w) (hg : w.grownBy w' row) (hr : ∀ k, row = some k → T k ∨ w0.heap.size ≤ k) : ButT T w0 w' :=
  ⟨hg.os.trans h.os, hg.tape.trans h.tape, hg.output.trans h.output, Nat.le_trans h.size hg.size, fun k hk ht => (hg.block k (Nat.lt_of_lt_of_le hk h.size) (fun he => by
    rcases hr k he.symm with h1 | h1
    · exact ht h1
    · omega)).trans (h.block k hk ht)⟩
theorem ButT.below {w0 w : World} (h : ButT (fun _ => False) w0 w) : Below w0.heap.size w0 w := ⟨h.os, h.tape, h.output, h.size, fun k hk => h.block k hk id⟩
theorem getElem?_lt {α : Type} {l : List α} {i : Nat} {x : α} (h : l[i]? = some x) : i < l.length := (List.getElem?_eq_some_iff.1 h).1
section
variable {T : Nat → Prop} {w0 w w' : World} {rs : List Res}
theorem InvT.below (h : InvT (fun _ => False) w0 rs w) : Below w0.heap.size w0 w := h.but.below
theorem Inv.start (w : World) : Inv w [] w := ⟨ButT.refl _, fun i r h => by simp at h, fun i r h => by simp at h, fun i j r s _ h => by simp at h⟩
theorem InvT.size (h : InvT T w0 rs w) : w0.heap.size ≤ w.heap.size := h.but.size
theorem InvT.lt (h : InvT T w0 rs w) {i : Nat} {r : Res} (hi : rs[i]? = some r) {k : Nat} (hk : r.blk = some k) : k < w.heap.size := (h.ok i r hi).lt hk
theorem InvT.on (h : InvT T w0 rs w) (hb : Below w.heap.size w w') : InvT T w0 rs w' :=
  ⟨h.but.on hb, fun i r hi => (h.ok i r hi).keep fun k hk => hb.block k (h.lt hi hk), h.low, h.apart⟩
theorem InvT.drew (h : InvT T w0 rs w) : InvT T w0 rs w.drew := h.on (Below.refl _ _).drew
theorem InvT.nilrow (h : InvT T w0 rs w) (e : TypeId) (size : Nat) : InvT T w0 (rs ++ [.row e size (.slice none 0 0) 0 []]) w := by
  refine ⟨h.but, fun i r hi => ?_, fun i r hi k hk => ?_, fun i j r s hij hi hj k hr hs => ?_⟩
  · rcases Nat.lt_or_ge i rs.length with hl | hl
    · rw [List.getElem?_append_left hl] at hi; exact h.ok i r hi
    · rw [List.getElem?_append_right hl] at hi
      have h0 : i - rs.length = 0 := by have := getElem?_lt hi; simp at this; omega
      rw [h0] at hi; cases hi
      exact World.ownsRow_nil w 0 e size
  · rcases Nat.lt_or_ge i rs.length with hl | hl
    · rw [List.getElem?_append_left hl] at hi; exact h.low i r hi k hk
    · rw [List.getElem?_append_right hl] at hi
      have h0 : i - rs.length = 0 := by have := getElem?_lt hi; simp at this; omega
      rw [h0] at hi; cases hi
      cases hk
  · rcases Nat.lt_or_ge i rs.length with hl | hl <;> rcases Nat.lt_or_ge j rs.length with hl' | hl'
    · rw [List.getElem?_append_left hl] at hi; rw [List.getElem?_append_left hl'] at hj
      exact h.apart i j r s hij hi hj k hr hs
    · rw [List.getElem?_append_right hl'] at hj
      have h0 : j - rs.length = 0 := by have := getElem?_lt hj; simp at this; omega
      rw [h0] at hj; cases hj; cases hs
    · rw [List.getElem?_append_right hl] at hi
      have h0 : i - rs.length = 0 := by have := getElem?_lt hi; simp at this; omega
      rw [h0] at hi; cases hi; cases hr
    · have := getElem?_lt hi; have := getElem?_lt hj; simp at *; omega
theorem InvT.more (h : InvT T w0 rs w) (hb : Below w.heap.size w w') {r : Res} (hr : r.ok w') (hl : ∀ k, r.blk = some k → w.heap.size ≤ k) : InvT T w0 (rs ++ [r]) w' := by
  have h' := h.on hb
  refine ⟨h'.but, fun i s hi => ?_, fun i s hi k hk => ?_, fun i j s t hij hi hj k hs ht => ?_⟩
  · rcases Nat.lt_or_ge i rs.length with hl' | hl'
    · rw [List.getElem?_append_left hl'] at hi; exact h'.ok i s hi
    · rw [List.getElem?_append_right hl'] at hi
      have h0 : i - rs.length = 0 := by have := getElem?_lt hi; simp at this; omega
      rw [h0] at hi; cases hi; exact hr
  · rcases Nat.lt_or_ge i rs.length with hl' | hl'
    · rw [List.getElem?_append_left hl'] at hi; exact h.low i s hi k hk
    · rw [List.getElem?_append_right hl'] at hi
      have h0 : i - rs.length = 0 := by have := getElem?_lt hi; simp at this; omega
      rw [h0] at hi; cases hi; have := hl k hk; have := h.size; exact .inr (by omega)
  · rcases Nat.lt_or_ge i rs.length with l1 | l1 <;> rcases Nat.lt_or_ge j rs.length with l2 | l2
    · rw [List.getElem?_append_left l1] at hi; rw [List.getElem?_append_left l2] at hj
      exact h.apart i j s t hij hi hj k hs ht
    · rw [List.getElem?_append_left l1] at hi; rw [List.getElem?_append_right l2] at hj
      have h0 : j - rs.length = 0 := by have := getElem?_lt hj; simp at this; omega
      rw [h0] at hj; cases hj
      have := hl k ht; have := h.lt hi hs; omega
    · rw [List.getElem?_append_right l1] at hi; rw [List.getElem?_append_left l2] at hj
      have h0 : i - rs.length = 0 := by have := getElem?_lt hi; simp at this; omega
      rw [h0] at hi; cases hi
      have := hl k hs; have := h.lt hj ht; omega
    · have := getElem?_lt hi; have := getElem?_lt hj; simp at *; omega
theorem InvT.alloc (h : InvT T w0 rs w) (t : TypeId) (cs : Array Value) : InvT T w0 (rs ++ [.box w.heap.size t cs]) (w.alloc (.cells cs t)) :=
  h.more ((Below.refl _ _).alloc (Nat.le_refl _) _) (Box.new w t cs rfl) fun k hk => by cases hk; exact Nat.le_refl _
theorem InvT.turn (h : InvT T w0 rs w) {i : Nat} {r r' : Res} (hi : rs[i]? = some r) {row : Option Nat} (hg : w.grownBy w' row) (hrow : ∀ k, row = some k → r.blk = some k ∨ w.heap.size ≤ k) (hr : r'.ok w') (hb : ∀ k, r'.blk = some k → r.blk = some k ∨ w.heap.size ≤ k) : InvT T w0 (rs.set i r') w' := by
  have keep : ∀ j s, j ≠ i → rs[j]? = some s → s.ok w' := fun j s hj hs => (h.ok j s hs).keep fun k hk => by
    refine hg.block k (h.lt hs hk) fun he => ?_
    rcases hrow k he.symm with h1 | h1
    · exact h.apart j i s r hj hs hi k hk h1
    · have := h.lt hs hk; omega
  have hin := getElem?_lt hi
  refine ⟨h.but.grown hg (fun k hk => ?_), fun j s hs => ?_, fun j s hs k hk => ?_, fun j l s t hjl hs ht k hsk htk => ?_⟩
  · rcases hrow k hk with h1 | h1
    · exact h.low i r hi k h1
    · have := h.size; exact .inr (by omega)
  · by_cases hj : j = i
    · subst hj
      rw [List.getElem?_set_self hin] at hs
      cases hs; exact hr
    · rw [List.getElem?_set_ne (Ne.symm hj)] at hs
      exact keep j s hj hs
  · by_cases hj : j = i
    · subst hj
      rw [List.getElem?_set_self hin] at hs
      cases hs
      rcases hb k hk with h1 | h1
      · exact h.low _ r hi k h1
      · have := h.size; exact .inr (by omega)
    · rw [List.getElem?_set_ne (Ne.symm hj)] at hs
      exact h.low j s hs k hk
  · by_cases hj : j = i
    · subst hj
      rw [List.getElem?_set_self hin] at hs
      cases hs
      rw [List.getElem?_set_ne hjl] at ht
      rcases hb k hsk with h1 | h1
      · exact h.apart _ l r t hjl hi ht k h1 htk
      · have := h.lt ht htk; omega
    · rw [List.getElem?_set_ne (Ne.symm hj)] at hs
      by_cases hl : l = i
      · subst hl
        rw [List.getElem?_set_self hin] at ht
        cases ht
        rcases hb k htk with h1 | h1
        · exact h.apart j _ s r hj hs hi k hsk h1
        · have := h.lt hs hsk; omega
      · rw [List.getElem?_set_ne (Ne.symm hl)] at ht
        exact h.apart j l s t hjl hs ht k hsk htk
theorem InvT.box (h : InvT T w0 rs w) {i g : Nat} {t : TypeId} {cs : Array Value} (hi : rs[i]? = some (.box g t cs)) : Box w g t cs := h.ok i _ hi
theorem InvT.cell (h : InvT T w0 rs w) {i g : Nat} {t : TypeId} {cs : Array Value} (hi : rs[i]? = some (.box g t cs)) (o : Nat) : w.cell? ⟨g, o, none⟩ = cs[o]? := (h.box hi).cell o
theorem InvT.own0 {α : Type} {enc : α → List Value} {e : TypeId} {size : Nat} {v : Value} {xs : List α} (h : InvT T w0 rs w) {i : Nat} (hi : rs[i]? = some (.row e size v xs.length (xs.flatMap enc))) : Own enc e size w 0 v xs := h.ok i _ hi
theorem InvT.own {α : Type} {enc : α → List Value} {e : TypeId} {size : Nat} {v : Value} {xs : List α} (h : Inv w0 rs w) {i : Nat} (hi : rs[i]? = some (.row e size v xs.length (xs.flatMap enc))) : Own enc e size w w0.heap.size v xs := by
  have := h.ok i _ hi
  refine ⟨this.1, ?_⟩
  rcases this.2 with hn | ⟨g, cap, cur, rfl, hb, hg, rest⟩
  · exact .inl hn
  · exact .inr ⟨g, cap, cur, rfl, (h.low i _ hi g rfl).resolve_left id, hg, rest⟩
theorem InvT.lies {α : Type} {enc : α → List Value} {size : Nat} {A : Option Addr} {xs : List α} (h : Inv w0 rs w) (hL : Lies enc size w0 w0.heap.size A xs) : Lies enc size w w.heap.size A xs := (hL.below h.below).more h.size
theorem InvT.ownrow {α : Type} {enc : α → List Value} {e : TypeId} {size : Nat} {v : Value} {xs : List α} (h : InvT T w0 rs w) (hb : Below w.heap.size w w') (ho : Own enc e size w' w.heap.size v xs) : InvT T w0 (rs ++ [.row e size v xs.length (xs.flatMap enc)]) w' :=
  h.more hb (show w'.ownsRow 0 e size v xs.length (xs.flatMap enc) from ho.base_mono (Nat.zero_le _)) fun k hk => (ho.lt k hk).1
theorem InvT.put (h : InvT T w0 rs w) {i g : Nat} {t t' : TypeId} {cs cs' : Array Value} (hi : rs[i]? = some (.box g t cs)) (hg : w.grownBy w' (some g)) (hb : Box w' g t' cs') : InvT T w0 (rs.set i (.box g t' cs')) w' :=
  h.turn hi hg (fun k hk => .inl hk) hb fun k hk => .inl hk
theorem InvT.app {α : Type} {enc : α → List Value} {e : TypeId} {size : Nat} {v v' : Value} {xs ys : List α} (h : InvT T w0 rs w) {i : Nat} (hi : rs[i]? = some (.row e size v xs.length (xs.flatMap enc))) (hg : w.grownBy w' v.ownBlock) (ho : Own enc e size w' 0 v' ys) (hv : v'.ownBlock = v.ownBlock ∨ v'.ownBlock = some w.heap.size) :
    InvT T w0 (rs.set i (.row e size v' ys.length (ys.flatMap enc))) w' :=
  h.turn hi hg (fun k hk => .inl hk) (show w'.ownsRow 0 e size v' ys.length (ys.flatMap enc) from ho) fun k hk => by
    rcases hv with h1 | h1
    · exact .inl (h1.symm.trans hk)
    · right; have hk' : v'.ownBlock = some k := hk; rw [h1] at hk'; cases hk'; exact Nat.le_refl _
end
section
variable {P : Program} {ops : Array Oper} {rest : List Oper} {o : Oper} {a : Act} {T : Nat → Prop} {w0 w : World} {rs : List Res} {K : Act → World → Prop} {Q : Exit → Act → World → Prop}
theorem wpI_box1 (ty : TypeId) (x : Operand) (ho : o.op = .box ty x) (hI : InvT T w0 rs w) {v : Value} (hx : a.eval x = v) (h1 : v.oneCell' = true) (h : ∀ g w', InvT T w0 (rs ++ [.box g ty #[v]]) w' → Below w.heap.size w w' → K (a.put o.dst (.pointer (some ⟨g, 0, none⟩))) w') : o.wp P a w K Q := by
  have hc : v.cells = #[v] := by cases v <;> first | rfl | cases h1
  unfold Oper.wp execOp
  simp only [ho, hx, Instr.box, newVar, newRow, hc, Sem.run_bind, Sem.run_pure, Result.andThen_ok]
  exact h _ _ (hI.alloc ty #[v]) ((Below.refl _ _).alloc (Nat.le_refl _) _)
theorem wpI_box (ty : TypeId) (x : Operand) (ho : o.op = .box ty x) (hI : InvT T w0 rs w) {cs : Array Value} (hx : a.eval x = .agg cs) (h : ∀ g w', InvT T w0 (rs ++ [.box g ty cs]) w' → Below w.heap.size w w' → K (a.put o.dst (.pointer (some ⟨g, 0, none⟩))) w') : o.wp P a w K Q := by
  unfold Oper.wp execOp
  simp only [ho, hx, Instr.box, newVar, newRow, Sem.run_bind, Sem.run_pure, Result.andThen_ok]
  exact h _ _ (hI.alloc ty cs) ((Below.refl _ _).alloc (Nat.le_refl _) _)
theorem wpI_alloc (ty : TypeId) (ho : o.op = .alloc ty) (hI : InvT T w0 rs w) {z : Value} (hz : ∀ w, (zeroValue ty).run P w = .ok z w) {cs : Array Value} (hc : z.cells = cs) (h : ∀ g w', InvT T w0 (rs ++ [.box g ty cs]) w' → Below w.heap.size w w' → K (a.put o.dst (.pointer (some ⟨g, 0, none⟩))) w') : o.wp P a w K Q := by
  unfold Oper.wp execOp
  simp only [ho, Instr.alloc, newVar, newRow, hz, hc, Sem.run_bind, Sem.run_pure, Result.andThen_ok]
  exact h _ _ (hI.alloc ty cs) ((Below.refl _ _).alloc (Nat.le_refl _) _)
theorem wpI_store1 (ty : TypeId) (x y : Operand) (ho : o.op = .store ty x y) (hI : InvT T w0 rs w) {g off : Nat} (hx : a.eval x = .pointer (some ⟨g, off, none⟩)) (i : Nat) {t : TypeId} {cs : Array Value} (hi : rs[i]? = some (.box g t cs)) {v : Value} (hy : a.eval y = v) (h1 : v.oneCell' = true) (hp : off < cs.size) (hz : (P.info? ty).map (·.size) = some 1)
    (h : ∀ w', InvT T w0 (rs.set i (.box g t (cs.setIfInBounds off v))) w' → K (a.put o.dst undef) w') : o.wp P a w K Q :=
  wp_store_val ty x y ho (hI.box hi) hx hy h1 rfl hp hz fun w' hb hg hsz => h w' (by
    have e : (cs.toList.set off v).toArray = cs.setIfInBounds off v := by rw [← Array.toList_setIfInBounds]
    rw [e] at hb
    exact hI.put hi hg hb)
theorem wpI_storeS (ty : TypeId) (x y : Operand) (ho : o.op = .store ty x y) (hI : InvT T w0 rs w) {g off : Nat} (hx : a.eval x = .pointer (some ⟨g, off, none⟩)) (i : Nat) {t : TypeId} {old cells : Array Value} (hi : rs[i]? = some (.box g t old)) (hy : a.eval y = .agg cells) {new : List Value} (hnew : setMany old.toList off cells.toList = new) (hlt : off + cells.size ≤ old.size) (hz : (P.info? ty).map (·.size) = some cells.size) (h1 : cells.all (·.oneCell') = true)
    (h : ∀ w', InvT T w0 (rs.set i (.box g t new.toArray)) w' → K (a.put o.dst undef) w') : o.wp P a w K Q := by
  subst hnew
  refine wp_store_mid ty x y ho g off cells hx hy (fun j hj => ?_) hz h1 ?_
  · rw [(hI.box hi).cell, (hI.box hi).frozen, Array.getElem?_eq_getElem (by omega)]
    exact ⟨rfl, rfl⟩
  · obtain ⟨h2, h3⟩ := grown_setCells (g := g) cells.toList off w
    exact h _ (hI.put hi h2 ((hI.box hi).setCells _ _ _ _))
theorem wpI_storeW (ty : TypeId) (x y : Operand) (ho : o.op = .store ty x y) (hI : InvT T w0 rs w) {g : Nat} (hx : a.eval x = .pointer (some ⟨g, 0, none⟩)) (i : Nat) {t : TypeId} {old cells : Array Value} (hi : rs[i]? = some (.box g t old)) (hy : a.eval y = .agg cells) (hold : old.size = cells.size) (hz : (P.info? ty).map (·.size) = some cells.size) (h1 : cells.all (·.oneCell') = true)
    (h : ∀ w', InvT T w0 (rs.set i (.box g t cells)) w' → K (a.put o.dst undef) w') : o.wp P a w K Q := by
  have hs : setMany old.toList 0 cells.toList = cells.toList := by
    apply List.ext_getElem?
    intro q
    rw [setMany_at _ _ _ _ (by simp [hold])]
    rcases Nat.lt_or_ge q cells.size with hq | hq
    · rw [if_pos ⟨Nat.zero_le _, by simpa using hq⟩, Nat.sub_zero]
    · rw [if_neg (by simp; omega), List.getElem?_eq_none (by simp; omega), List.getElem?_eq_none (by simp; omega)]
  exact wpI_storeS ty x y ho hI hx i hi hy hs (by omega) hz h1 h
theorem wpI_slice1 (t e : TypeId) (x : Operand) (ho : o.op = .buildSlice t 1 #[(0, x)]) (hI : InvT T w0 rs w) (hu : P.underlying t = some (.slice e)) {us : Array Value} (hx : (a.eval x).cells = us) {size : Nat} (hie : (P.info? e).map (fun i => i.zero.isSome && (i.size == size) && decide (0 < i.size) && decide (i.size ≤ 1000) && ((i.zero.map (·.cells.size)).getD 0 == i.size)) = some true) (hs : us.size = size)
    (h : ∀ g w', InvT T w0 (rs ++ [.box g e us]) w' → Below w.heap.size w w' → K (a.put o.dst (.slice (some ⟨g, 0, none⟩) 1 1)) w') : o.wp P a w K Q := by
  subst hx
  cases hi : P.info? e with
  | none => simp [hi] at hie
  | some i =>
    simp only [hi, Option.map_some, Option.some.injEq, Bool.and_eq_true, decide_eq_true_eq, beq_iff_eq] at hie
    obtain ⟨⟨⟨⟨hz, hsz⟩, hpos⟩, hbig⟩, hzs⟩ := hie
    obtain ⟨z, hz⟩ := Option.isSome_iff_exists.1 hz
    rw [hz] at hzs
    simp only [Option.map_some, Option.getD_some] at hzs
    subst hs
    refine wp_buildSlice t e 1 #[(0, x)] ho (a.eval x).cells i z hu hi hz (by omega) (by omega) ?_ (h _ _ (hI.alloc e _) ((Below.refl _ _).alloc (Nat.le_refl _) _))
    have hlen : ((Array.range (1 * i.size)).map (z.cells[· % z.cells.size]!)).size = i.size := by simp
    have e1 : (#[(0, x)].map fun (y : Nat × Operand) => match y with | (i, x) => (i, a.eval x)).toList = [(0, a.eval x)] := by simp
    rw [e1, Instr.fill]
    simp only [Nat.zero_mul]
    rw [if_neg (by rw [hlen, hsz]; simp), Instr.fill]
    congr 1
    have key : ∀ (us : List Value) (p : Nat) (cs : Array Value), p + us.length ≤ cs.size → ((us.zipIdx p).foldl (fun cs (x : Value × Nat) => match x with | (c, j) => cs.setIfInBounds (0 + j) c) cs).toList = setMany cs.toList p us := by
      intro us
      induction us with
      | nil => intro p cs _; rfl
      | cons u us ih =>
        intro p cs hp
        simp only [List.length_cons] at hp
        have := ih (p + 1) (cs.setIfInBounds p u) (by rw [Array.size_setIfInBounds]; omega)
        rw [Array.toList_setIfInBounds] at this
        rw [setMany, ← this]
        simp [List.zipIdx_cons]
    have hk := key (a.eval x).cells.toList 0 ((Array.range (1 * i.size)).map (z.cells[· % z.cells.size]!)) (by rw [Array.length_toList, hlen, hsz]; omega)
    rw [← Array.toList_inj, ← Array.foldl_toList, Array.toList_zipIdx, hk]
    apply List.ext_getElem?
    intro q
    rw [setMany_at _ _ _ _ (by simp only [Array.length_toList] at *; omega)]
    rcases Nat.lt_or_ge q (a.eval x).cells.size with hq | hq
    · rw [if_pos ⟨Nat.zero_le _, by simpa using hq⟩, Nat.sub_zero]
    · rw [if_neg (by simp; omega), List.getElem?_eq_none (by simp only [Array.length_toList] at *; omega), List.getElem?_eq_none (by simp; omega)]
section
variable {α : Type} {enc : α → List Value} {t e : TypeId} {size bytes : Nat}
theorem wpI_app (s x : Operand) (ho : o.op = .call { callee := .builtin .append, args := #[s, x], argTypes := #[t, t] }) (E : ElT P enc t e size bytes) (hI : InvT T w0 rs w) (i : Nat) {v : Value} {xs ys : List α} (hs : a.eval s = v) (hi : rs[i]? = some (.row e size v xs.length (xs.flatMap enc)))
    {B : Nat} {A : Option Addr} {c n : Nat} (hx : a.eval x = .slice A n c) (hL : Lies enc size w B A ys) (hn : ys.length = n) (h63 : xs.length + ys.length ≤ maxLen) (hbytes : (xs.length + ys.length) * bytes ≤ 140737488355328)
    (h : ∀ v' w', InvT T w0 (rs.set i (.row e size v' (xs ++ ys).length ((xs ++ ys).flatMap enc))) w' → K (a.put o.dst v') w') : o.wp P a w K Q := by
  subst hn
  obtain ⟨v', w', hr, h2, h3, h4⟩ := run_app E w o.type (hI.own0 hi) hL (c := c) h63 hbytes (Nat.zero_le _)
  unfold Oper.wp execOp
  simp only [ho, resolve, invoke, builtin, Sem.run_bind, Sem.run_pure, Result.andThen_ok, List.map_toArray, List.map_cons, List.map_nil, hs, hx, hr]
  exact h v' w' (hI.app hi h3 h2 h4)
end
theorem listI (hg : o.guard = none) (h : ∀ K, (∀ a w, wpList P ops Q rest a w → K a w) → o.wp P a w K Q) : wpList P ops Q (o :: rest) a w := wpList_plain hg h
end
theorem InvT.take_ {T : Nat → Prop} {w0 w : World} {rs : List Res} (h : InvT T w0 rs w) (n : Nat) : InvT T w0 (rs.take n) w := by
  have e : ∀ {i : Nat} {r : Res}, (rs.take n)[i]? = some r → rs[i]? = some r := fun hi => by
    rw [List.getElem?_take] at hi
    split at hi
    · exact hi
    · cases hi
  exact ⟨h.but, fun i r hi => h.ok i r (e hi), fun i r hi => h.low i r (e hi), fun i j r s hij hi hj => h.apart i j r s hij (e hi) (e hj)⟩
theorem InvT.first {T : Nat → Prop} {w0 w : World} {rs : List Res} (rs' ts : List Res) (h : InvT T w0 rs w) (he : rs = rs' ++ ts) : InvT T w0 rs' w := by
  subst he
  have := h.take_ rs'.length
  rwa [List.take_left] at this
section
variable {regs : List Val} {k : Key} {a b c : Value}
@[go_sem] theorem machL_56 (hl : regs.length = 8) : (machL regs k a b c)[56]? = some (.int .i64 k.perm) := machL_tail hl 0
@[go_sem] theorem machL_57 (hl : regs.length = 8) : (machL regs k a b c)[57]? = some (.int .i64 k.base) := machL_tail hl 1
@[go_sem] theorem machL_58 (hl : regs.length = 8) : (machL regs k a b c)[58]? = some (.int .i64 k.len) := machL_tail hl 2
@[go_sem] theorem machL_59 (hl : regs.length = 8) : (machL regs k a b c)[59]? = some (.int .i64 k.pos) := machL_tail hl 3
@[go_sem] theorem machL_60 (hl : regs.length = 8) : (machL regs k a b c)[60]? = some (.int .i64 k.tag) := machL_tail hl 4
@[go_sem] theorem machL_61 (hl : regs.length = 8) : (machL regs k a b c)[61]? = some a := machL_tail hl 5
@[go_sem] theorem machL_62 (hl : regs.length = 8) : (machL regs k a b c)[62]? = some b := machL_tail hl 6
@[go_sem] theorem machL_63 (hl : regs.length = 8) : (machL regs k a b c)[63]? = some c := machL_tail hl 7
end
def Held (T : Nat → Prop) (w0 : World) (rs : List Res) (J : List Nat) (W : World) : Prop := ButT T w0 W ∧ ∀ i ∈ J, ∀ r, rs[i]? = some r → r.ok W
section
variable {T : Nat → Prop} {w0 w : World} {rs rs' : List Res} {J : List Nat}
theorem Held.box (h : Held T w0 rs J w) (i : Nat) (hj : i ∈ J) {g : Nat} {t : TypeId} {cs : Array Value} (hi : rs[i]? = some (.box g t cs)) : Box w g t cs := h.2 i hj _ hi
theorem Held.cell (h : Held T w0 rs J w) (i : Nat) (hj : i ∈ J) {g : Nat} {t : TypeId} {cs : Array Value} (hi : rs[i]? = some (.box g t cs)) (o : Nat) : w.cell? ⟨g, o, none⟩ = cs[o]? := (h.box i hj hi).cell o
theorem Held.drew (h : Held T w0 rs J w) : Held T w0 rs J w.drew := ⟨h.1.on (Below.refl _ _).drew, fun i hj r hi => (h.2 i hj r hi).keep fun _ _ => rfl⟩
theorem InvT.held (h : InvT T w0 rs' w) (he : ∀ i ∈ J, rs'[i]? = rs[i]?) : Held T w0 rs J w := ⟨h.but, fun i hj r hi => h.ok i r ((he i hj).trans hi)⟩
variable {P : Program} {ops : Array Oper} {a : Act} {K : Act → World → Prop} {Q : Exit → Act → World → Prop}
theorem wp_region_K (J : List Nat) {id : Nat} (hm : P.follows .mixedOrders = true) (hI : InvT T w0 rs w)
    (h : ∀ w', InvT T w0 rs w' → Held T w0 rs J w' → wpAnyH P .any ops Q (Held T w0 rs J) ops.size (Array.replicate ops.size false) a w') : (Code.region id ops true).wp P Q a w :=
  wp_region_held_drew hm (hI.drew.held fun _ _ => rfl) fun hS => h _ hI.drew hS
theorem wp_region_KG (s : Nat) (J : List Nat) {id : Nat} (hm : P.follows .mixedOrders = true) (hI : InvT T w0 rs w)
    (h : ∀ w', InvT T w0 rs w' → Held T w0 rs J w' → GateW P .any ops Q (Held T w0 rs J) s ops.size (Array.replicate ops.size false) a w') : (Code.region id ops true).wp P Q a w :=
  wp_region_G s (Held T w0 rs J) hm (hI.drew.held fun _ _ => rfl) fun hS => h _ hI.drew hS
theorem stepI {o : Oper} {G : Prop} (hg : o.guard = none) (h : o.wp P a w K Q) : if Region.wanted o (yielded ops a.tmps) = true then Oper.wp P o a w K Q else G := by
  rw [if_pos (by simp [Region.wanted, hg])]; exact h
end
section
variable {P : Program} {ops : Array Oper} {rest : List Oper} {o : Oper} {a : Act} {T : Nat → Prop} {w0 w : World} {rs : List Res} {K : Act → World → Prop} {Q : Exit → Act → World → Prop}
end
theorem InvT.lies1 {α : Type} {enc : α → List Value} {size : Nat} {T : Nat → Prop} {w0 w : World} {rs : List Res} (h : InvT T w0 rs w) {i g : Nat} {t : TypeId} {cs : Array Value} (hi : rs[i]? = some (.box g t cs)) (x : α) (hx : ∀ j, j < size → cs[j]? = (enc x)[j]?) : Lies enc size w (g + 1) (some ⟨g, 0, none⟩) [x] := fun _ => by
  refine ⟨g, 0, rfl, Nat.lt_succ_self _, fun k y hy j hj => ?_⟩
  match k, hy with
  | 0, hy =>
    cases hy
    rw [h.cell hi, ← hx j hj]
    congr 1
    omega
section
variable {P : Program} {ops : Array Oper} {rest : List Oper} {o1 o2 : Oper} {a : Act} {T : Nat → Prop} {w0 w : World} {rs : List Res} {Q : Exit → Act → World → Prop}
theorem listI_var (hg1 : o1.guard = none) (hg2 : o2.guard = none) (ty : TypeId) (ho1 : o1.op = .alloc ty) (x y : Operand) (ho2 : o2.op = .store ty x y) (hI : InvT T w0 rs w) {z : Value} (hz : ∀ w, (zeroValue ty).run P w = .ok z w) {cells : Array Value} (hx : ∀ u, (a.put o1.dst u).eval x = u) (hy : ∀ u, (a.put o1.dst u).eval y = .agg cells)
    (hc : z.cells.size = cells.size) (hi : (P.info? ty).map (·.size) = some cells.size) (h1 : cells.all (·.oneCell') = true)
    (h : ∀ g w', InvT T w0 (rs ++ [.box g ty cells]) w' → Below w.heap.size w w' → wpList P ops Q rest ((a.put o1.dst (.pointer (some ⟨g, 0, none⟩))).put o2.dst undef) w') : wpList P ops Q (o1 :: o2 :: rest) a w := by
  refine wpList_plain hg1 fun K hK => ?_
  unfold Oper.wp execOp
  simp only [ho1, Instr.alloc, newVar, newRow, hz, Sem.run_bind, Sem.run_pure, Result.andThen_ok]
  refine hK _ _ ?_
  refine wpList_store_box hg2 ty x y ho2 (Box.new w ty z.cells rfl) (hx _) (hy _) hi hc h1 fun w' hb hg hs => ?_
  have hbl : Below w.heap.size w w' := ((Below.refl _ w).alloc (Nat.le_refl _) _).grown hg (by rw [World.size_alloc]; omega) (fun k hk => by cases hk; exact Nat.le_refl _)
  exact h _ w' (hI.more hbl (show (Res.box w.heap.size ty cells).ok w' from hb) fun k hk => by cases hk; exact Nat.le_refl _) hbl
end
theorem InvT.one {T : Nat → Prop} {w0 w : World} {rs : List Res} (h : InvT T w0 rs w) {i : Nat} {e : TypeId} {size n : Nat} {v : Value} {us : List Value} (hi : rs[i]? = some (.row e size v n us)) : v.oneCell' = true := by
  rcases (h.ok i _ hi).2 with ⟨rfl, _⟩ | ⟨g, cap, cur, rfl, _⟩ <;> rfl
theorem InvT.cast {T : Nat → Prop} {w0 w : World} {rs rs' : List Res} (h : InvT T w0 rs w) (e : rs' = rs) : InvT T w0 rs' w := e ▸ h
def Blks (rs : List Res) (k : Nat) : Prop := ∃ r ∈ rs, r.blk = some k
theorem InvT.frame {T : Nat → Prop} {w0 w w' : World} {rc rc' ts : List Res} (h : InvT T w0 (rc ++ ts) w) (hc : InvT (Blks rc) w rc' w') : InvT T w0 (rc' ++ ts) w' := by
  have hrc : ∀ k, Blks rc k → ∃ (i : Nat) (r : Res), i < rc.length ∧ rc[i]? = some r ∧ (rc ++ ts)[i]? = some r ∧ r.blk = some k := fun k ⟨r, hr, hk⟩ => by
    obtain ⟨i, hi, he⟩ := List.getElem_of_mem hr
    have h1 : rc[i]? = some r := by rw [List.getElem?_eq_getElem hi, he]
    exact ⟨i, r, hi, h1, by rw [List.getElem?_append_left hi]; exact h1, hk⟩
  have hts : ∀ (i : Nat) (r : Res), ts[i]? = some r → (rc ++ ts)[rc.length + i]? = some r := fun i r hi => by
    rw [List.getElem?_append_right (by omega), show rc.length + i - rc.length = i by omega]; exact hi
  have hno : ∀ (i : Nat) (r : Res) (k : Nat), ts[i]? = some r → r.blk = some k → ¬ Blks rc k := fun i r k hi hk hb => by
    obtain ⟨j, s, hj, _, hj2, hs⟩ := hrc k hb
    exact h.apart (rc.length + i) j r s (by omega) (hts i r hi) hj2 k hk hs
  have hB : ∀ k, Blks rc k → T k ∨ w0.heap.size ≤ k := fun k hb => by
    obtain ⟨j, s, _, _, hj2, hs⟩ := hrc k hb
    exact h.low j s hj2 k hs
  refine ⟨⟨hc.but.os.trans h.but.os, hc.but.tape.trans h.but.tape, hc.but.output.trans h.but.output, Nat.le_trans h.but.size hc.but.size, fun k hk ht => ?_⟩, fun i r hi => ?_, fun i r hi k hk => ?_, fun i j r s hij hi hj k hr hs => ?_⟩
  · refine (hc.but.block k (Nat.lt_of_lt_of_le hk h.but.size) fun hb => ?_).trans (h.but.block k hk ht)
    rcases hB k hb with h1 | h1
    · exact ht h1
    · omega
  · rcases Nat.lt_or_ge i rc'.length with hl | hl
    · rw [List.getElem?_append_left hl] at hi; exact hc.ok i r hi
    · rw [List.getElem?_append_right hl] at hi
      have h0 := hts _ _ hi
      exact (h.ok _ r h0).keep fun k hk => hc.but.block k (h.lt h0 hk) (hno _ r k hi hk)
  · rcases Nat.lt_or_ge i rc'.length with hl | hl
    · rw [List.getElem?_append_left hl] at hi
      rcases hc.low i r hi k hk with h1 | h1
      · exact hB k h1
      · have := h.but.size; exact .inr (by omega)
    · rw [List.getElem?_append_right hl] at hi
      exact h.low _ r (hts _ _ hi) k hk
  · have mix : ∀ (i j : Nat) (r s : Res), rc'[i]? = some r → ts[j]? = some s → r.blk = some k → s.blk = some k → False := fun i j r s hi hj hr hs => by
      rcases hc.low i r hi k hr with h1 | h1
      · exact hno j s k hj hs h1
      · have := h.lt (hts j s hj) hs; omega
    rcases Nat.lt_or_ge i rc'.length with l1 | l1 <;> rcases Nat.lt_or_ge j rc'.length with l2 | l2
    · rw [List.getElem?_append_left l1] at hi; rw [List.getElem?_append_left l2] at hj
      exact hc.apart i j r s hij hi hj k hr hs
    · rw [List.getElem?_append_left l1] at hi; rw [List.getElem?_append_right l2] at hj
      exact mix _ _ r s hi hj hr hs
    · rw [List.getElem?_append_right l1] at hi; rw [List.getElem?_append_left l2] at hj
      exact mix _ _ s r hj hi hs hr
    · rw [List.getElem?_append_right l1] at hi; rw [List.getElem?_append_right l2] at hj
      exact h.apart _ _ r s (by omega) (hts _ _ hi) (hts _ _ hj) k hr hs
theorem InvT.perm {T : Nat → Prop} {w0 w : World} {rs rs' : List Res} (h : InvT T w0 rs w) (hp : rs.Perm rs') : InvT T w0 rs' w := by
  have hpw : rs.Pairwise fun r s => ∀ k, r.blk = some k → s.blk ≠ some k := List.pairwise_iff_getElem.2 fun i j hi hj hij => h.apart i j _ _ (by omega) (List.getElem?_eq_getElem hi) (List.getElem?_eq_getElem hj)
  have hpw' : rs'.Pairwise fun r s => ∀ k, r.blk = some k → s.blk ≠ some k := (List.Perm.pairwise_iff (fun {r s} hrs k hk hk' => hrs k hk' hk) hp).1 hpw
  have hmem : ∀ i r, rs'[i]? = some r → ∃ j, rs[j]? = some r := fun i r hi => by
    have : r ∈ rs := hp.mem_iff.2 (List.mem_of_getElem? hi)
    exact List.getElem?_of_mem this
  refine ⟨h.but, fun i r hi => ?_, fun i r hi => ?_, fun i j r s hij hi hj k hr hs => ?_⟩
  · obtain ⟨j, hj⟩ := hmem i r hi; exact h.ok j r hj
  · obtain ⟨j, hj⟩ := hmem i r hi; exact h.low j r hj
  · obtain ⟨hi', rfl⟩ := List.getElem?_eq_some_iff.1 hi
    obtain ⟨hj', rfl⟩ := List.getElem?_eq_some_iff.1 hj
    rcases Nat.lt_or_gt_of_ne hij with h1 | h1
    · exact List.pairwise_iff_getElem.1 hpw' i j hi' hj' h1 k hr hs
    · exact List.pairwise_iff_getElem.1 hpw' j i hj' hi' h1 k hs hr
theorem InvT.enter {T : Nat → Prop} {w0 w : World} {rc ts : List Res} (h : InvT T w0 (rc ++ ts) w) : InvT (Blks rc) w rc w :=
  ⟨ButT.refl w, fun i r hi => h.ok i r (by rw [List.getElem?_append_left (getElem?_lt hi)]; exact hi), fun i r hi k hk => .inl ⟨r, List.mem_of_getElem? hi, hk⟩,
    fun i j r s hij hi hj => h.apart i j r s hij (by rw [List.getElem?_append_left (getElem?_lt hi)]; exact hi) (by rw [List.getElem?_append_left (getElem?_lt hj)]; exact hj)⟩
theorem InvT.frame1 {T : Nat → Prop} {w0 w w' : World} {rs : List Res} {n : Nat} {r r' : Res} (h : InvT T w0 rs w) (hn : rs[n]? = some r) (hc : InvT (Blks [r]) w [r'] w') : InvT T w0 (rs.set n r') w' := by
  have hlt := getElem?_lt hn
  have e : rs = rs.take n ++ r :: rs.drop (n + 1) := by
    rw [← (List.getElem?_eq_some_iff.1 hn).2, ← List.drop_eq_getElem_cons hlt, List.take_append_drop]
  have e' : rs.set n r' = rs.take n ++ r' :: rs.drop (n + 1) := by
    rw [List.set_eq_take_append_cons_drop, if_pos hlt]
  rw [e']
  rw [e] at h
  have h2 := InvT.frame (rc := [r]) (rc' := [r']) (ts := rs.take n ++ rs.drop (n + 1)) (h.perm List.perm_middle) hc
  rw [List.singleton_append] at h2
  exact h2.perm List.perm_middle.symm
theorem InvT.enter1 {T : Nat → Prop} {w0 w : World} {rs : List Res} {n : Nat} {r : Res} (h : InvT T w0 rs w) (hn : rs[n]? = some r) : InvT (Blks [r]) w [r] w :=
  ⟨ButT.refl w, fun i s hi => by
    match i, hi with
    | 0, hi => cases hi; exact h.ok n _ hn, fun i s hi k hk => .inl ⟨s, List.mem_of_getElem? hi, hk⟩, fun i j s t hij hi hj => by
    have := getElem?_lt hi; have := getElem?_lt hj; simp at *; omega⟩
def cellAt (cs : Array Value) (o : Nat) : Option Value := cs[o]?
@[go_sem] theorem cellAt_eq (cs : Array Value) (o : Nat) : cellAt cs o = cs[o]? := rfl
def factsOf (w : World) : List Res → Prop
  | [] => True
  | .box g _ cs :: l => (∀ o, w.cell? ⟨g, o, none⟩ = cellAt cs o) ∧ factsOf w l
  | .row .. :: l => factsOf w l
  | .obj .. :: l => factsOf w l
theorem mm : (∀ (α : Type) (x : α) (l m : List α), (x :: l) ++ m = x :: (l ++ m)) ∧ (∀ (α : Type) (l : List α), [] ++ l = l) ∧ (∀ (α : Type) (x y : α) (l : List α), (x :: l).set 0 y = y :: l) ∧ (∀ (α : Type) (x y : α) (l : List α) (i : Nat), (x :: l).set (i + 1) y = x :: l.set i y) ∧
    (∀ (α : Type) (l : List α) (i : Nat) (x : α), l.toArray.setIfInBounds i x = (l.set i x).toArray) ∧ (∀ (α : Type) (xs : Array α) (i : Nat) (d : α), xs.getD i d = xs[i]?.getD d) ∧ (∀ (α : Type) (l : List α) (i : Nat), l.toArray[i]? = l[i]?) ∧
    (∀ (α : Type) (x : α) (l : List α), (x :: l)[0]? = some x) ∧ (∀ (α : Type) (x : α) (l : List α) (i : Nat), (x :: l)[i + 1]? = l[i]?) ∧ (∀ (α : Type) (x d : α), (some x).getD d = x) ∧
    (∀ w, factsOf w [] = True) ∧ (∀ w g t cs l, factsOf w (.box g t cs :: l) = ((∀ o, w.cell? ⟨g, o, none⟩ = cellAt cs o) ∧ factsOf w l)) ∧ (∀ w e s v n us l, factsOf w (.row e s v n us :: l) = factsOf w l) ∧ (∀ w g o l, factsOf w (.obj g o :: l) = factsOf w l) ∧ (∀ p : Prop, (p ∧ True) = p) :=
  ⟨fun _ _ _ _ => rfl, fun _ _ => rfl, fun _ _ _ _ => rfl, fun _ _ _ _ _ => rfl, fun _ _ _ _ => List.setIfInBounds_toArray .., fun _ _ _ _ => Array.getD_eq_getD_getElem? .., fun _ _ _ => List.getElem?_toArray .., fun _ _ _ => rfl, fun _ _ _ _ => rfl, fun _ _ _ => rfl,
    fun _ => rfl, fun _ _ _ _ _ => rfl, fun _ _ _ _ _ _ _ => rfl, fun _ _ _ _ => rfl, fun _ => and_true _⟩
theorem factsOf_all {w : World} : ∀ {rs : List Res}, (∀ r ∈ rs, r.ok w) → factsOf w rs
  | [], _ => trivial
  | .box g t cs :: l, h => ⟨fun o => Box.cell (h _ (List.mem_cons_self ..)) o, factsOf_all fun r hr => h r (List.mem_cons_of_mem _ hr)⟩
  | .row .. :: l, h => factsOf_all (rs := l) fun r hr => h r (List.mem_cons_of_mem _ hr)
  | .obj .. :: l, h => factsOf_all (rs := l) fun r hr => h r (List.mem_cons_of_mem _ hr)
theorem InvT.facts {T : Nat → Prop} {w0 w : World} {rs : List Res} (h : InvT T w0 rs w) : factsOf w rs := factsOf_all fun r hr => by
  obtain ⟨i, hi, he⟩ := List.getElem_of_mem hr
  exact h.ok i r (by rw [List.getElem?_eq_getElem hi, he])
def heldOf (rs : List Res) (w : World) : List Nat → Prop
  | [] => True
  | j :: J => factsOf w (rs[j]?.toList) ∧ heldOf rs w J
theorem heldOf_all {rs : List Res} {w : World} : ∀ {J : List Nat}, (∀ i ∈ J, ∀ r, rs[i]? = some r → r.ok w) → heldOf rs w J
  | [], _ => trivial
  | j :: J, h => ⟨factsOf_all fun r hr => h j (List.mem_cons_self ..) r (by simpa using hr), heldOf_all fun i hi => h i (List.mem_cons_of_mem _ hi)⟩
theorem Held.facts {T : Nat → Prop} {w0 w : World} {rs : List Res} {J : List Nat} (h : Held T w0 rs J w) : heldOf rs w J := heldOf_all h.2
theorem tk {P : Program} {md : Region.Mode} {ops : Array Oper} {Q : Exit → Act → World → Prop} {S : World → Prop} {oi : Oper} {fuel : Nat} {listed : Array Bool} {a : Act} {w : World} {v : Value} (i : Nat)
    (h : wpAnyH P md ops Q S fuel (listed.setIfInBounds i true) (a.put oi.dst v) w)
    (hi0 : ops.toList[i]? = some oi := by rfl) (hs : Region.noSelect ops = true := by kernel_rfl) (hf : Region.free md ops listed i = true := by kernel_rfl) (hr : (Region.ready md ops listed).contains i = true := by kernel_rfl)
    (hQ : ∀ v c a w, Q (.panic c) (a.put oi.dst v) w → Q (.panic c) a w := by exact fun _ _ _ _ h => h) (hw : Region.wanted oi (yielded ops a.tmps) = true := by rfl) (hS : S w := by first | assumption | exact hI.held (by simp))
    (hv : ∀ w, S w → (execOp a.eval oi).run P w = .ok (.value v) w := by (intro w hSw; have cF := hSw.facts; (try simp only [heldOf, factsOf, n8, n9, Option.toList_some, and_true] at cF); go_simp; first | done | with_reducible rfl)) :
    wpAnyH P md ops Q S (fuel + 1) listed a w := takeH hi0 hs hf hr hQ hw hS ⟨v, hv, h⟩
theorem tg {P : Program} {md : Region.Mode} {ops : Array Oper} {Q : Exit → Act → World → Prop} {S : World → Prop} {s : Nat} {oi : Oper} {fuel : Nat} {listed : Array Bool} {a : Act} {w : World} {v : Value} (i : Nat)
    (h : GateW P md ops Q S s fuel (listed.setIfInBounds i true) (a.put oi.dst v) w)
    (hi0 : ops.toList[i]? = some oi := by rfl) (hB : (Region.noSelect ops && decide (s < ops.size) && reaches md ops ops.size s i && (i != s)) = true := by kernel_rfl) (hf : Region.free md ops listed i = true := by kernel_rfl) (hr : (Region.ready md ops listed).contains i = true := by kernel_rfl)
    (hQ : ∀ v c a w, Q (.panic c) (a.put oi.dst v) w → Q (.panic c) a w := by exact fun _ _ _ _ h => h) (hw : Region.wanted oi (yielded ops a.tmps) = true := by rfl) (hS : S w := by first | assumption | exact hI.held (by simp))
    (hv : ∀ w, S w → (execOp a.eval oi).run P w = .ok (.value v) w := by (intro w hSw; have cF := hSw.facts; (try simp only [heldOf, factsOf, n8, n9, Option.toList_some, and_true] at cF); go_simp; first | done | with_reducible rfl)) :
    GateW P md ops Q S s (fuel + 1) listed a w := takeG hi0 hB hf hr hQ hw hS ⟨v, hv, h⟩
end Go.Proofs.YtbkjhdohkdeniaaGreatDoor
namespace Go.Proofs.YtbkjhdohkdeniaaGreatDoor
open Go.RowKit
set_option maxRecDepth 100000
section
variable {P : Program} {o : Oper} {a : Act} {T : Nat → Prop} {w0 w : World} {rs : List Res} {K : Act → World → Prop} {Q : Exit → Act → World → Prop} {α : Type} {enc : α → List Value} {t e : TypeId} {size bytes : Nat}
end
theorem InvT.pick {T : Nat → Prop} {w0 w : World} {rs : List Res} (h : InvT T w0 rs w) (is : List Nat) (rs' : List Res) (hn : is.Nodup) (he : rs'.map some = is.map (fun i => rs[i]?)) : InvT T w0 rs' w := by
  have hat : ∀ (k : Nat) r, rs'[k]? = some r → ∃ i, is[k]? = some i ∧ rs[i]? = some r := fun k r hk => by
    have h1 : (rs'.map some)[k]? = some (some r) := by rw [List.getElem?_map, hk]; rfl
    rw [he, List.getElem?_map] at h1
    cases hi : is[k]? with
    | none => rw [hi] at h1; cases h1
    | some i => rw [hi] at h1; exact ⟨i, rfl, Option.some.inj h1⟩
  refine ⟨h.but, fun k r hk => ?_, fun k r hk g hg => ?_, fun k j r s hkj hk hj g hr hs => ?_⟩
  · obtain ⟨i, -, hi⟩ := hat k r hk
    exact h.ok i r hi
  · obtain ⟨i, -, hi⟩ := hat k r hk
    exact h.low i r hi g hg
  · obtain ⟨i, hi0, hi⟩ := hat k r hk
    obtain ⟨l, hl0, hl⟩ := hat j s hj
    refine h.apart i l r s (fun e => hkj ?_) hi hl g hr hs
    subst e
    exact (List.getElem?_inj (List.getElem?_eq_some_iff.1 hi0).1 hn).1 (hi0.trans hl0.symm)
theorem InvT.form0 {α : Type} {enc : α → List Value} {T : Nat → Prop} {w0 w : World} {rs : List Res} (h : InvT T w0 rs w) {i : Nat} {e : TypeId} {size : Nat} {v : Value} {xs : List α} (hi : rs[i]? = some (.row e size v xs.length (xs.flatMap enc))) (hn : 0 < xs.length) : ∃ g c, v = .slice (some ⟨g, 0, none⟩) xs.length c := by
  rcases (h.ok i _ hi).2 with ⟨rfl, h0⟩ | ⟨g, cap, cur, rfl, _⟩
  · omega
  · exact ⟨g, cap, rfl⟩
theorem InvT.joinP {T : Nat → Prop} {w0 w w' : World} {rs rs2 : List Res} (h : InvT T w0 rs w) (h2 : Inv w rs2 w') : InvT T w0 (rs ++ rs2) w' := by
  have h1 := h.on h2.below
  have hz := h.size
  have low2 : ∀ (i : Nat) r, rs2[i]? = some r → ∀ k, r.blk = some k → w.heap.size ≤ k := fun i r hi k hk => (h2.low i r hi k hk).resolve_left id
  refine ⟨h1.but, fun i s hi => ?_, fun i s hi k hk => ?_, fun i j s t hij hi hj k hs ht => ?_⟩
  · rcases Nat.lt_or_ge i rs.length with hl | hl
    · rw [List.getElem?_append_left hl] at hi; exact h1.ok i s hi
    · rw [List.getElem?_append_right hl] at hi; exact h2.ok _ s hi
  · rcases Nat.lt_or_ge i rs.length with hl | hl
    · rw [List.getElem?_append_left hl] at hi; exact h1.low i s hi k hk
    · rw [List.getElem?_append_right hl] at hi
      have := low2 _ s hi k hk
      exact .inr (by omega)
  · rcases Nat.lt_or_ge i rs.length with hl | hl <;> rcases Nat.lt_or_ge j rs.length with hl2 | hl2
    · rw [List.getElem?_append_left hl] at hi; rw [List.getElem?_append_left hl2] at hj; exact h1.apart i j s t hij hi hj k hs ht
    · rw [List.getElem?_append_left hl] at hi; rw [List.getElem?_append_right hl2] at hj
      have := h.lt hi hs
      have := low2 _ t hj k ht
      omega
    · rw [List.getElem?_append_right hl] at hi; rw [List.getElem?_append_left hl2] at hj
      have := h.lt hj ht
      have := low2 _ s hi k hs
      omega
    · rw [List.getElem?_append_right hl] at hi; rw [List.getElem?_append_right hl2] at hj
      exact h2.apart _ _ s t (by omega) hi hj k hs ht
end Go.Proofs.YtbkjhdohkdeniaaGreatDoor
