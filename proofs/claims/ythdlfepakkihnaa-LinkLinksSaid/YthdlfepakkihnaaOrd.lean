/- Regions that draw, with several operations that make memory or call: their orders one by one, what comes behind them once. Conditions: none. -/
import Derived.Test.YthdlfepakkihnaaInv
namespace Go.Proofs.Ythdlfepakkihnaa
open Go.RowKit
set_option linter.unusedVariables false
set_option linter.unusedSimpArgs false
set_option maxRecDepth 100000
section
variable {P : Program} {ops : Array Oper} {a : Act} {T : Nat → Prop} {w0 w : World} {rs : List Res} {K : Act → World → Prop} {Q : Exit → Act → World → Prop}
theorem threeH {i j k : Nat} {oi oj ok : Oper} {md : Region.Mode} {S : World → Prop} {fuel : Nat} {listed : Array Bool} (hr : Region.ready md ops listed = [i, j, k]) (hi0 : ops.toList[i]? = some oi) (hj0 : ops.toList[j]? = some oj) (hk0 : ops.toList[k]? = some ok)
    (h1 : ∀ K : Act → World → Prop, Shut (∀ a w, S w → (S w → wpAnyH P md ops Q S fuel (listed.setIfInBounds i true) a w) → K a w) → if Region.wanted oi (yielded ops a.tmps) = true then Oper.wp P oi a w K Q else K (a.put oi.dst undef) w)
    (h2 : ∀ K : Act → World → Prop, Shut (∀ a w, S w → (S w → wpAnyH P md ops Q S fuel (listed.setIfInBounds j true) a w) → K a w) → if Region.wanted oj (yielded ops a.tmps) = true then Oper.wp P oj a w K Q else K (a.put oj.dst undef) w)
    (h3 : ∀ K : Act → World → Prop, Shut (∀ a w, S w → (S w → wpAnyH P md ops Q S fuel (listed.setIfInBounds k true) a w) → K a w) → if Region.wanted ok (yielded ops a.tmps) = true then Oper.wp P ok a w K Q else K (a.put ok.dst undef) w) :
    wpAnyH P md ops Q S (fuel + 1) listed a w := by
  have hi : ops[i]? = some oi := by rw [← Array.getElem?_toList]; exact hi0
  have hj : ops[j]? = some oj := by rw [← Array.getElem?_toList]; exact hj0
  have hk : ops[k]? = some ok := by rw [← Array.getElem?_toList]; exact hk0
  exact wpAnyH_ready hr (by simp) (AllReadyH.cons hi h1 (AllReadyH.cons hj h2 (AllReadyH.cons hk h3 AllReadyH.nil)))
end
/-- what comes behind, once: one, two, three new blocks -/
theorem orders1 {T : Nat → Prop} {w0 : World} {R : Nat → List Res} {G : Nat → World → Prop} {goal : Prop} (hmain : (∀ g1 w', InvT T w0 (R g1) w' → G g1 w') → goal) (hcont : ∀ g1 w', InvT T w0 (R g1) w' → G g1 w') : goal := hmain hcont
theorem orders2 {T : Nat → Prop} {w0 : World} {R : Nat → Nat → List Res} {G : Nat → Nat → World → Prop} {goal : Prop} (hmain : (∀ g1 g2 w', InvT T w0 (R g1 g2) w' → G g1 g2 w') → goal) (hcont : ∀ g1 g2 w', InvT T w0 (R g1 g2) w' → G g1 g2 w') : goal := hmain hcont
theorem orders3 {T : Nat → Prop} {w0 : World} {R : Nat → Nat → Nat → List Res} {G : Nat → Nat → Nat → World → Prop} {goal : Prop} (hmain : (∀ g1 g2 g3 w', InvT T w0 (R g1 g2 g3) w' → G g1 g2 g3 w') → goal) (hcont : ∀ g1 g2 g3 w', InvT T w0 (R g1 g2 g3) w' → G g1 g2 g3 w') : goal := hmain hcont
/-- two neighbours in the other order -/
theorem InvT.swapAt {T : Nat → Prop} {w0 w : World} {rs : List Res} (n : Nat) {x y : Res} (h : InvT T w0 rs w) (hx : rs[n]? = some x) (hy : rs[n + 1]? = some y) : InvT T w0 ((rs.set n y).set (n + 1) x) w := by
  have hl := getElem?_lt hy
  have key : ∀ {i : Nat} {r : Res}, ((rs.set n y).set (n + 1) x)[i]? = some r → rs[if i = n then n + 1 else if i = n + 1 then n else i]? = some r := fun {i r} hi => by
    by_cases h1 : i = n + 1
    · subst h1
      rw [List.getElem?_set_self (by rw [List.length_set]; omega)] at hi
      rw [if_neg (by omega), if_pos rfl, hx]; exact hi
    · rw [List.getElem?_set_ne (Ne.symm h1)] at hi
      by_cases h2 : i = n
      · subst h2
        rw [List.getElem?_set_self (by omega)] at hi
        rw [if_pos rfl, hy]; exact hi
      · rw [List.getElem?_set_ne (Ne.symm h2)] at hi
        rw [if_neg h2, if_neg h1]; exact hi
  refine ⟨h.but, fun i r hi => h.ok _ r (key hi), fun i r hi => h.low _ r (key hi), fun i j r s hij hi hj => h.apart _ _ r s ?_ (key hi) (key hj)⟩
  repeat' split
  all_goals omega
end Go.Proofs.Ythdlfepakkihnaa
