/- What the parts say: A struct stored into a slice of the call's own; a slice's end cut off; an append as a step of a region that draws. Conditions: none. -/
import Derived.Test.YtbkjhdohkdeniaaGreatDoorP03
import Derived.Test.YtbkjhdohkdeniaaGreatDoorP09
import Derived.Deep.MidRow
set_option linter.unusedVariables false
set_option linter.unusedSimpArgs false
namespace Go.Proofs.YtbkjhdohkdeniaaGreatDoor
open Go.RowKit
set_option maxRecDepth 100000

def setMany : List Value → Nat → List Value → List Value
  | ys, _, [] => ys
  | ys, p, u :: us => setMany (ys.set p u) (p + 1) us
theorem setMany_at : ∀ (us ys : List Value) (p q : Nat), p + us.length ≤ ys.length → (setMany ys p us)[q]? = if p ≤ q ∧ q < p + us.length then us[q - p]? else ys[q]?
  | [], ys, p, q, _ => by rw [setMany, if_neg (by simp)]
  | u :: us, ys, p, q, h => by
    rw [setMany, setMany_at us (ys.set p u) (p + 1) q (by simpa [List.length_set, Nat.add_assoc, Nat.add_comm 1] using h)]
    simp only [List.length_cons] at h ⊢
    by_cases h1 : p + 1 ≤ q ∧ q < p + 1 + us.length
    · rw [if_pos h1, if_pos (by omega), show q - p = (q - (p + 1)) + 1 by omega, List.getElem?_cons_succ]
    · rw [if_neg h1]
      by_cases h2 : q = p
      · subst h2
        rw [if_pos (by omega), Nat.sub_self, List.getElem?_cons_zero, List.getElem?_set_self (by omega)]
      · rw [if_neg (by omega), List.getElem?_set_ne (by omega)]
section
variable {w w' : World} {base : Nat} {e : TypeId} {size g n c : Nat} {ys : List Value}
theorem ownsRow_set (h : w.ownsRow base e size (.slice (some ⟨g, 0, none⟩) n c) n ys) {p : Nat} (hp : p < ys.length) (u : Value) : (w.setCell ⟨g, p, none⟩ u).ownsRow base e size (.slice (some ⟨g, 0, none⟩) n c) n (ys.set p u) := by
  refine ⟨by rw [List.length_set]; exact h.1, ?_⟩
  rcases h.2 with ⟨hv, _⟩ | ⟨g', cap, cur, hv, hb, hg, hnc, hcm, hsz, htk⟩
  · cases hv
  · injection hv with hA _ hc
    injection hA with hA
    injection hA with hg0
    subst hg0 hc
    refine .inr ⟨g, c, cur.setIfInBounds p u, rfl, hb, ?_, hnc, hcm, by simpa using hsz, ?_⟩
    · simp [World.setCell, Array.getElem?_modify, hg]
    · rw [Array.toList_setIfInBounds, ← htk, List.take_set]
theorem ownsRow_setCells : ∀ (us : List Value) (p : Nat) (ys : List Value) (w : World), w.ownsRow base e size (.slice (some ⟨g, 0, none⟩) n c) n ys → p + us.length ≤ ys.length → (w.setCells g p us).ownsRow base e size (.slice (some ⟨g, 0, none⟩) n c) n (setMany ys p us)
  | [], _, _, _, h, _ => h
  | u :: us, p, ys, w, h, hl => by
    simp only [List.length_cons] at hl
    exact ownsRow_setCells us (p + 1) (ys.set p u) _ (ownsRow_set h (by omega) u) (by rw [List.length_set]; omega)
theorem grown_setCells : ∀ (us : List Value) (p : Nat) (w : World), w.grownBy (w.setCells g p us) (some g) ∧ (w.setCells g p us).heap.size = w.heap.size
  | [], _, w => ⟨World.grownBy.refl w _, rfl⟩
  | u :: us, p, w => by
    obtain ⟨h1, h2⟩ := grown_setCells us (p + 1) (w.setCell ⟨g, p, none⟩ u)
    have h0 : w.grownBy (w.setCell ⟨g, p, none⟩ u) (some g) := ⟨rfl, rfl, rfl, by simp [World.size_setCell], fun k hk hne => Below.heap_setCell w _ u k (fun e => hne (by rw [e]))⟩
    exact ⟨h0.trans h1, h2.trans (by simp [World.size_setCell])⟩
end
section
variable {P : Program} {α : Type} {enc : α → List Value} {t e : TypeId} {size bytes : Nat}
theorem flat_set_all {xs : List α} (hl : ∀ x, (enc x).length = size) {i : Nat} (hi : i < xs.length) (y : α) : setMany (xs.flatMap enc) (i * size) (enc y) = (xs.set i y).flatMap enc := by
  have hlen := flat_len (xs := xs) hl
  have hle : i * size + size ≤ xs.length * size := by rw [← Nat.succ_mul]; exact Nat.mul_le_mul_right _ hi
  apply List.ext_getElem?
  intro q
  rw [setMany_at _ _ _ _ (by rw [hl, hlen]; exact hle), hl]
  rcases Nat.lt_or_ge q (xs.length * size) with hq | hq
  · rcases Nat.eq_zero_or_pos size with h0 | h0
    · subst h0; omega
    · have hj : q / size < xs.length := Nat.div_lt_of_lt_mul (by rw [Nat.mul_comm]; exact hq)
      have hqn : q = q / size * size + q % size := by rw [Nat.mul_comm]; exact (Nat.div_add_mod q size).symm
      have hm := Nat.mod_lt q h0
      by_cases hc : i * size ≤ q ∧ q < i * size + size
      · rw [if_pos hc]
        have hi' : q / size = i := by
          rw [Nat.div_eq_iff h0]
          omega
        have hx : (xs.set i y)[i]? = some y := List.getElem?_set_self hi
        have := flat_at (enc := enc) (j := q % size) hl hx hm
        rw [hi'] at hqn
        rw [← hqn] at this
        rw [this]
        congr 1
        omega
      · rw [if_neg hc]
        have hne : q / size ≠ i := by
          intro h
          rw [h] at hqn
          exact hc ⟨by omega, by omega⟩
        have hx : (xs.set i y)[q / size]? = some xs[q / size] := by rw [List.getElem?_set_ne (by omega)]; exact List.getElem?_eq_getElem hj
        have h1 := flat_at (enc := enc) (j := q % size) hl hx hm
        have h2 := flat_at (enc := enc) (j := q % size) hl (List.getElem?_eq_getElem hj) hm
        rw [← hqn] at h1 h2
        rw [h1, h2]
  · rw [if_neg (by omega), List.getElem?_eq_none (by rw [hlen]; exact hq), List.getElem?_eq_none (by rw [flat_len hl, List.length_set]; exact hq)]
end
theorem Lies.cut {α : Type} {enc : α → List Value} {size : Nat} {w : World} {B b o k c : Nat} {xs : List α} (h : Lies enc size w B (some ⟨b, o, none⟩) xs) (hc : xs.length ≤ c) :
    Lies enc size w B (if c = k then some ⟨b, o, none⟩ else some ⟨b, o + k * size, none⟩) (xs.drop k) := fun hn => by
  have hk : k < xs.length := by
    rcases Nat.lt_or_ge k xs.length with h1 | h1
    · exact h1
    · exact absurd (List.drop_eq_nil_of_le h1) hn
  obtain ⟨b', o', hA, hb, hx⟩ := h (by rintro rfl; simp at hk)
  cases hA
  rw [if_neg (by omega)]
  refine ⟨b, o + k * size, rfl, hb, fun i x hi j hj => ?_⟩
  rw [List.getElem?_drop] at hi
  have := hx _ _ hi j hj
  rw [← this]
  congr 2
  rw [Nat.add_mul]; omega
theorem Lies.front {α : Type} {enc : α → List Value} {size : Nat} {w : World} {B k : Nat} {A : Option Addr} {xs : List α} (h : Lies enc size w B A xs) : Lies enc size w B A (xs.take k) := fun hn => by
  obtain ⟨b, o, hA, hb, hx⟩ := h (by rintro rfl; simp at hn)
  refine ⟨b, o, hA, hb, fun i x hi j hj => hx i x ?_ j hj⟩
  rw [List.getElem?_take] at hi
  split at hi
  · exact hi
  · cases hi
theorem eqOfAll {α : Type} {xs ys : List α} (hl : xs.length = ys.length) (h : ∀ j, j < xs.length → xs[j]? = ys[j]?) : xs = ys := by
  apply List.ext_getElem?
  intro j
  rcases Nat.lt_or_ge j xs.length with hj | hj
  · exact h j hj
  · rw [List.getElem?_eq_none hj, List.getElem?_eq_none (by omega)]
end Go.Proofs.YtbkjhdohkdeniaaGreatDoor
