/- Two lists of numbers, one behind the other. Conditions: none. -/
import Derived.Test.YthdlfepakkihnaaLinkM
import Derived.Test.YthdlfepakkihnaaModRf
import Derived.Test.YthdlfepakkihnaaRowSet
namespace Go.Proofs.Ythdlfepakkihnaa
open Go.RowKit
set_option linter.unusedVariables false
set_option linter.unusedSimpArgs false
set_option maxRecDepth 100000
def partsOf (cs ds : List Int) (q : Nat) : List Int := ([cs, ds].take q).flatten
theorem partsOf_all (cs ds : List Int) {q : Nat} (h : 2 ≤ q) : partsOf cs ds q = cs ++ ds := by unfold partsOf; rw [List.take_of_length_le (by simpa using h)]; simp
theorem twoL {w : World} {B : Nat} {A D : Option Addr} {a d : Nat} {cs ds : List Int} {sl : Array Value} (s0 : sl[0]? = some (.slice A cs.length a)) (s1 : sl[1]? = some (.slice D ds.length d)) (hA : Lies encI 1 w B A cs) (hD : Lies encI 1 w B D ds) {q : Nat} (hq : q < 2) :
    ∃ (Aq : Option Addr) (cq : Nat) (lst : List Int), sl[q]? = some (.slice Aq lst.length cq) ∧ Lies encI 1 w B Aq lst ∧ partsOf cs ds (q + 1) = partsOf cs ds q ++ lst ∧ (partsOf cs ds q).length + lst.length ≤ cs.length + ds.length := by
  match q, hq with
  | 0, _ => exact ⟨A, a, cs, s0, hA, by simp [partsOf], by simp [partsOf]⟩
  | 1, _ => exact ⟨D, d, ds, s1, hD, by simp [partsOf], by simp [partsOf]⟩
theorem mem_partsOf {cs ds : List Int} {q : Nat} {n : Int} (h : n ∈ partsOf cs ds q) : n ∈ cs ++ ds := by
  unfold partsOf at h
  obtain ⟨l, hl, hn⟩ := List.mem_flatten.1 h
  have := List.mem_of_mem_take hl
  simp only [List.mem_cons, List.not_mem_nil, or_false] at this
  rcases this with rfl | rfl
  · exact List.mem_append_left _ hn
  · exact List.mem_append_right _ hn
end Go.Proofs.Ythdlfepakkihnaa
