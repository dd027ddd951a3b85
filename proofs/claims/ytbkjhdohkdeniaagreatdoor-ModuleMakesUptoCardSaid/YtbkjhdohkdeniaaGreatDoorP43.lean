/- What the parts say: A row that says of the other goroutines only that they are leaving: it follows from the row that says that there are none. Conditions: none. -/
import Derived.Test.YtbkjhdohkdeniaaGreatDoorP42
import Derived.Leaving
import Derived.SevenTiedAt
set_option linter.unusedVariables false
set_option linter.unusedSimpArgs false
namespace Go.Proofs.YtbkjhdohkdeniaaGreatDoor
open Go.RowKit
set_option maxRecDepth 100000
theorem holds_leaving {p : Pinned} {s : OpenSpec} {c : OpenClaim} (hw : c.wf s = true) (hl : c.leaving = true) (hs : c.start = .entering) (hst : c.stops = []) (hc : ({ c with leaving := false } : OpenClaim).holds p s) : c.holds p s := by
  obtain ⟨_, a1, a2, a3, a4, a5, a6, a7, f, fn, e1, e2, b1, b2, b3, b4, b5, b6, b7, b8, b9, b10, b11, b12, b13, b14, b15, b16, b17, b18, b19, L, hL, hall⟩ := hc
  refine ⟨hw, a1, a2, a3, a4, a5, a6, a7, f, fn, e1, e2, b1, b2, b3, b4, b5, b6, b7, b8, b9, b10, b11, b12, b13, b14, b15, b16, b17, b18, b19, L, hL, fun os ho hq H enc inj => ?_⟩
  have h := hall os ho hq H enc inj
  unfold OpenClaim.form at h ⊢
  dsimp only at h
  rw [hs, hst] at h ⊢
  intro F
  obtain ⟨m1, m2, m3, m4, m5⟩ := h F
  refine ⟨m1, m2, m3, m4, fun w tape i hf => ?_⟩
  obtain ⟨n, v, w', r1, r2, r3, r4, ⟨j, last, s1, s2, s3⟩, r6⟩ := m5 w tape i hf
  refine ⟨n, v, w', r1, r2, r3, r4, ⟨j, last, s1, s2, ?_⟩, r6⟩
  have s4 : aloneAtReturn p.checked.prog last w' _ := s3
  unfold OpenClaim.atReturn
  rw [hl]
  exact ⟨s4.2.1, onlyLeaving_of_quiet s4.1, s4.2.2⟩
theorem holds_tied_goes (Lk : Looks) {p : Pinned} {s : OpenSpec} {c : OpenClaim} (kinds : List LaidKind) (tests : Bool) (har : Bool × String) (lk : Bool)
    (hc : c.holds p s) (hw : c.wfByText s = true) (htie : c.laidByTextAt Lk p kinds tests) (hst : c.start = .entering) (hnb : c.noBlocks = false ∧ c.again = false) (hm : p.checked.prog.mainIs = some (har.1, har.2.toList)) (hn : (!har.1 && har.2.isEmpty && !lk) = false)
    (hl : ∀ f fn, p.checked.prog.funcNamed c.func = some f → p.checked.prog.funcs[f]? = some fn → lk = p.checked.prog.looks [] ∧ ∀ (j : Nat) t, fn.params[j]? = some t → p.checked.prog.wantsStandIn t = false)
    (hg : true = c.goesBy p.checked.prog) :
    Claim7.holds p (.plain s) { stood := { row := c, standIns := [], harness := har, looks := lk }, kinds := [], alts := [], goes := true, laidByText := true, laidKinds := kinds, laidTests := tests, laidLooks := Lk } := by
  have h6 : Claim7.isSixth { stood := { row := c, standIns := [], harness := har, looks := lk }, kinds := [] } = false := by simpa [Claim7.isSixth] using hn
  exact ⟨Claim7.tied_new_at Lk kinds tests (Claim7.new_of_sixth hc har lk hst hnb hm h6 hl) hw, (fun D hD => by cases hD), htie, (fun h => by cases h), hg⟩
end Go.Proofs.YtbkjhdohkdeniaaGreatDoor
