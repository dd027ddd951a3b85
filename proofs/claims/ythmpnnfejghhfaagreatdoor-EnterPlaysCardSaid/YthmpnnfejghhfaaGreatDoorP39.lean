/- What the parts say: A wrong kind where one is wanted: the step says so. Conditions: none. -/
import Derived.Test.YthmpnnfejghhfaaGreatDoorP21
import Derived.Test.YthmpnnfejghhfaaGreatDoorP38
import Derived.Test.YthmpnnfejghhfaaGreatDoorP23
set_option linter.unusedVariables false
set_option linter.unusedSimpArgs false
namespace Go.Proofs.YthmpnnfejghhfaaGreatDoor
open Go.RowKit
set_option maxRecDepth 100000
def want3 (op c : Int) : Int × Int × Int :=
  if op = 3 ∨ op = 4 ∨ op = 5 ∨ op = 6 ∨ op = 7 then (0, 1, 1) else if op = 9 ∨ op = 22 then (1, 0, 0) else if op = 10 ∨ op = 11 ∨ op = 14 then (0, 2, 0) else if op = 12 ∨ op = 13 then (0, 2, 1) else if op = 15 ∨ op = 16 then (0, 2, 2)
  else if op = 17 then (0, 2 * truthOf (decide (0 < c)), 0) else if op = 18 then (2, 2, 0) else (0, 0, 0)
section
variable {m : Mach} {a b : Nat} {c : Int} {x y z : Val}
theorem instOk_c21 {i : Inst} (h : instOk i = true) (hop : i.op = 21 := by rfl) : 0 ≤ i.c := by
  simp only [instOk, Bool.and_eq_true, inR_iff] at h; have h1 := h.2
  rw [hop] at h1
  have : 0 ≤ i.c ∧ i.c ≤ 255 := by simpa [shapeN, lowC, highC] using h1
  exact this.1
theorem bad3 {op : Int} (hop : op = 3 ∨ op = 4 ∨ op = 5 ∨ op = 6 ∨ op = 7) (hy : regV m b = y) (hz : regV m c = z) (ht : y.is = true ∨ z.is = true) : (doF ⟨op, a, b, c⟩ m).2 = 10 := by
  rcases hop with rfl | rfl | rfl | rfl | rfl <;> rcases ht with h | h <;> simp [doF, plainF, hy, hz, h]
theorem bad9 {op : Int} (hop : op = 9 ∨ op = 22) (hx : regV m a = x) (ht : x.is = true) : (doF ⟨op, a, b, c⟩ m).2 = 10 := by
  rcases hop with rfl | rfl <;> simp [doF, plainF, hx, ht]
theorem bad10 {op : Int} (hop : op = 10 ∨ op = 11 ∨ op = 14) (hy : regV m b = y) (ht : y.is = false) : (doF ⟨op, a, b, c⟩ m).2 = 10 := by
  rcases hop with rfl | rfl | rfl <;> simp [doF, plainF, byKeyF, hy, ht]
theorem bad12 {op : Int} (hop : op = 12 ∨ op = 13) (hy : regV m b = y) (hz : regV m c = z) (ht : y.is = false ∨ z.is = true) : (doF ⟨op, a, b, c⟩ m).2 = 10 := by
  rcases hop with rfl | rfl <;> rcases ht with h | h <;> simp [doF, plainF, byKeyF, hy, hz, h]
theorem bad15 {op : Int} (hop : op = 15 ∨ op = 16) (hy : regV m b = y) (hz : regV m c = z) (ht : y.is = false ∨ z.is = false) : (doF ⟨op, a, b, c⟩ m).2 = 10 := by
  rcases hop with rfl | rfl <;> rcases ht with h | h <;> simp [doF, plainF, byKeyF, hy, hz, h]
theorem bad18 (hx : regV m a = x) (hy : regV m b = y) (ht : x.is = false ∨ y.is = false) : (doF ⟨18, a, b, c⟩ m).2 = 10 := by
  rcases ht with h | h <;> simp [doF, hx, hy, h]
theorem tag0 (v : Val) : tagB 0 v = false := rfl
theorem tag1 (v : Val) : tagB 1 v = v.is := by cases h : v.is <;> simp [tagB, h]
theorem tag2 (v : Val) : tagB 2 v = !v.is := by cases h : v.is <;> simp [tagB, h]
theorem doF_bad {op : Int} (hi : instOk ⟨op, a, b, c⟩ = true) (hx : regV m a = x) (hy : regV m b = y) (hz : (0 ≤ c ∧ c ≤ 7) → regV m c = z)
    (ht : (tagB (want3 op c).1 x || tagB (want3 op c).2.1 y || tagB (want3 op c).2.2 z) = true) : (doF ⟨op, a, b, c⟩ m).2 = 10 := by
  have h7 : (op = 3 ∨ op = 4 ∨ op = 5 ∨ op = 6 ∨ op = 7 ∨ op = 12 ∨ op = 13 ∨ op = 15 ∨ op = 16) → regV m c = z := fun h => hz (instOk_c7 hi h); have h5 : op = 17 → 0 ≤ c ∧ c ≤ 5 := fun h => instOk_c5 hi h; unfold want3 at ht
  split at ht
  · rename_i h
    refine bad3 h hy (h7 (by omega)) ?_
    simpa [tag0, tag1, tag2] using ht
  split at ht
  · rename_i h
    refine bad9 h hx ?_
    simpa [tag0, tag1, tag2] using ht
  split at ht
  · rename_i h
    refine bad10 h hy ?_
    simpa [tag0, tag1, tag2] using ht
  split at ht
  · rename_i h
    refine bad12 h hy (h7 (by omega)) ?_
    simpa [tag0, tag1, tag2] using ht
  split at ht
  · rename_i h
    refine bad15 h hy (h7 (by omega)) ?_
    simpa [tag0, tag1, tag2] using ht
  split at ht
  · rename_i h
    subst h
    by_cases hc : 0 < c
    · have hc' : ¬ c = 0 := (by omega); simp only [hc, decide_true, show (2 * truthOf true) = 2 from rfl, tag0, tag2, Bool.false_or, Bool.or_false, Bool.not_eq_true'] at ht
      simp [doF, plainF, hy, ht, hc']
    · simp only [hc, decide_false, show (2 * truthOf false) = 0 from rfl, tag0, Bool.false_or, Bool.or_false] at ht
      cases ht
  split at ht
  · rename_i h
    subst h
    refine bad18 hx hy ?_
    simpa [tag0, tag1, tag2] using ht
  · simp [tag0] at ht
end
end Go.Proofs.YthmpnnfejghhfaaGreatDoor
