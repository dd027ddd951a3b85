/- What the parts say: A region that draws its order: loads that may be taken first, calls that make memory, ahead of a forced tail that writes. Conditions: none. -/
import Derived.Test.YtbkjhdohkdeniaaGreatDoorP08
import Derived.Deep.RegionHeld
set_option linter.unusedVariables false
set_option linter.unusedSimpArgs false
namespace Go.Proofs.YtbkjhdohkdeniaaGreatDoor
open Go.RowKit
set_option maxRecDepth 100000

section
variable {P : Program} {ops : Array Oper} {Q : Exit → Act → World → Prop} {md : Region.Mode} {S : World → Prop}
theorem takeH {i : Nat} {oi : Oper} {fuel : Nat} {listed : Array Bool} {a : Act} {w : World} (hi0 : ops.toList[i]? = some oi)
    (hs : Region.noSelect ops = true) (hf : Region.free md ops listed i = true) (hr : (Region.ready md ops listed).contains i = true)
    (hQ : ∀ v c a w, Q (.panic c) (a.put oi.dst v) w → Q (.panic c) a w) (hw : Region.wanted oi (yielded ops a.tmps) = true) (hS : S w)
    (h : ∃ v, (∀ w, S w → (execOp a.eval oi).run P w = .ok (.value v) w) ∧ wpAnyH P md ops Q S fuel (listed.setIfInBounds i true) (a.put oi.dst v) w) : wpAnyH P md ops Q S (fuel + 1) listed a w := by
  have hi : ops[i]? = some oi := by rw [← Array.getElem?_toList]; exact hi0
  obtain ⟨v, hv, h⟩ := h
  exact wpAnyH_take hi hs hf hr (hQ v) (.inl ⟨hw, hv⟩) hS h
theorem oneH {i : Nat} {oi : Oper} {fuel : Nat} {listed : Array Bool} {a : Act} {w : World} (hr : Region.ready md ops listed = [i]) (hi0 : ops.toList[i]? = some oi)
    (h : ∀ K : Act → World → Prop, Shut (∀ a w, S w → (S w → wpAnyH P md ops Q S fuel (listed.setIfInBounds i true) a w) → K a w) → if Region.wanted oi (yielded ops a.tmps) = true then Oper.wp P oi a w K Q else K (a.put oi.dst undef) w) :
    wpAnyH P md ops Q S (fuel + 1) listed a w := by
  have hi : ops[i]? = some oi := by rw [← Array.getElem?_toList]; exact hi0
  exact wpAnyH_ready hr (by simp) (AllReadyH.cons hi h AllReadyH.nil)
end
end Go.Proofs.YtbkjhdohkdeniaaGreatDoor
namespace Go.Proofs.YtbkjhdohkdeniaaGreatDoor
open Go.RowKit
set_option maxRecDepth 100000

section
variable {P : Program} {ops : Array Oper} {Q : Exit → Act → World → Prop} {md : Region.Mode} {S : World → Prop} {s : Nat}
def reaches (md : Region.Mode) (ops : Array Oper) : Nat → Nat → Nat → Bool
  | 0, _, _ => false
  | f + 1, s, i => match ops[s]? with
    | some o => o.after.any fun e => Region.binds md e && (e.on == i || reaches md ops f e.on i)
    | none => false
theorem reaches_listed {n : Nat} {listed : Array Bool} (inv : HeadInv md ops n listed) {i : Nat} : ∀ (f s : Nat), reaches md ops f s i = true → listed.getD s false = true → listed.getD i false = true := by
  intro f
  induction f with
  | zero => intro s h; cases h
  | succ f ih =>
    intro s h hs
    rw [reaches] at h
    split at h
    · rename_i o ho
      obtain ⟨e, he, hb⟩ := Array.any_eq_true'.1 h
      simp only [Bool.and_eq_true, Bool.or_eq_true, beq_iff_eq] at hb
      have h1 := inv.closed s o ho hs e he hb.1
      rcases hb.2 with h2 | h2
      · rw [h2] at h1; exact h1
      · exact ih _ h2 h1
    · cases h
theorem reaches_gate {n : Nat} {listed : Array Bool} (inv : HeadInv md ops n listed) {i f : Nat} (h : reaches md ops f s i = true) (hs : s < ops.size) (hi : listed.getD i true = false) : listed.getD s true = false := by
  cases h1 : listed.getD s false with
  | true =>
    have h2 := reaches_listed inv f s h h1
    rw [getD_both hi] at h2
    cases h2
  | false => exact getD_in (by rw [inv.size]; exact hs) h1
def wpAnyG (P : Program) (md : Region.Mode) (ops : Array Oper) (Q : Exit → Act → World → Prop) (S : World → Prop) (s : Nat) : Nat → Array Bool → Act → World → Prop
  | 0, listed, a, w => Region.ready md ops listed = [] ∧ Q .normal a w
  | fuel + 1, listed, a, w => (Region.ready md ops listed = [] → Q .normal a w) ∧ ∀ i ∈ Region.ready md ops listed, wpOp P ops Q i (fun a' w' => ((listed.setIfInBounds i true).getD s true = false → S w') ∧ wpAnyG P md ops Q S s fuel (listed.setIfInBounds i true) a' w') a w
theorem wpAny_of_G : ∀ (fuel : Nat) (listed : Array Bool) (a : Act) (w : World), wpAnyG P md ops Q S s fuel listed a w → wpAny P md ops Q fuel listed a w
  | 0, _, _, _, h => h
  | fuel + 1, _, _, _, h => ⟨h.1, fun i hi => wpOp_mono (fun a' w' h' => wpAny_of_G fuel _ a' w' h'.2) (h.2 i hi)⟩
theorem ready_lt {listed : Array Bool} {i : Nat} (h : i ∈ Region.ready md ops listed) : i < ops.size := by
  obtain ⟨_, o, ho, _⟩ := mem_ready.1 h
  exact (Array.getElem?_eq_some_iff.1 ho).1
theorem wpAnyG_first {T : World → Prop} {i : Nat} {oi : Oper} {v : Value} (hi : ops[i]? = some oi) (hsel : ∀ (j : Nat) (o : Oper) cs b, ops[j]? = some o → o.op ≠ .select cs b) (his : i ≠ s)
    (hT : ∀ listed w, HeadInv md ops ops.size listed → listed.getD i true = false → (listed.getD s true = false → S w) → T w)
    (hQ : ∀ c a w, Q (.panic c) (a.put oi.dst v) w → Q (.panic c) a w) :
    ∀ (fuel : Nat) (listed : Array Bool) (a : Act) (w : World), HeadInv md ops ops.size listed →
      (∀ j oj, ops[j]? = some oj → j ≠ i → listed.getD j true = false → (∀ e ∈ oj.after, Region.binds md e = true → e.on ≠ i) → oi.apart ops oj = true) →
      i ∈ Region.ready md ops listed → YieldsIf P ops T oi v a → (listed.getD s true = false → S w) →
      wpAnyG P md ops Q S s fuel (listed.setIfInBounds i true) (a.put oi.dst v) w → wpAnyG P md ops Q S s (fuel + 1) listed a w := by
  intro fuel
  induction fuel with
  | zero =>
    intro listed a w inv _ hr hy hS H
    have hun := (mem_ready.1 hr).1
    refine ⟨fun h => (by rw [h] at hr; cases hr), fun j hj => ?_⟩
    by_cases hji : j = i
    · subst hji; exact hy.wpOp hi (hT listed w inv hun hS) ⟨fun h => hS (by rwa [getD_set_ne true his] at h), H⟩
    · have := ready_mono hj hji
      rw [H.1] at this
      cases this
  | succ fuel ih =>
    intro listed a w inv hfree hr hy hS H
    have hun := (mem_ready.1 hr).1
    refine ⟨fun h => (by rw [h] at hr; cases hr), fun j hj => ?_⟩
    by_cases hji : j = i
    · subst hji; exact hy.wpOp hi (hT listed w inv hun hS) ⟨fun h => hS (by rwa [getD_set_ne true his] at h), H⟩
    · have h1 := H.2 j (ready_mono hj hji)
      obtain ⟨hjun, oj, hoj, hall⟩ := mem_ready.1 hj
      have hnot : ∀ e ∈ oj.after, Region.binds md e = true → e.on ≠ i := fun e he hb heq => by
        have h1 := hall e he hb
        rw [heq, getD_both hun] at h1
        cases h1
      have h2 := wpOp_putIf hoj (hfree j oj hoj hji hjun hnot) (fun cs b => hsel i oi cs b hi) (fun cs b => hsel j oj cs b hoj) hQ hy h1
      have hfree' : ∀ k ok, ops[k]? = some ok → k ≠ i → (listed.setIfInBounds j true).getD k true = false →
          (∀ e ∈ ok.after, Region.binds md e = true → e.on ≠ i) → oi.apart ops ok = true := fun k ok hk hki hun hno => by
        refine hfree k ok hk hki ?_ hno
        by_cases hjk : j = k
        · subst hjk; exact hjun
        · rw [getD_set_ne true hjk] at hun; exact hun
      refine wpOp_mono (fun a' w' h3 => ?_) h2
      have hS' : (listed.setIfInBounds j true).getD s true = false → S w' := fun h => h3.2.1 (by rw [Array.setIfInBounds_comm _ _ (Ne.symm hji), getD_set_ne true his]; exact h)
      refine ⟨hS', ih (listed.setIfInBounds j true) a' w' (inv.set hj (ready_lt hj)) hfree' (ready_mono hr (Ne.symm hji)) h3.1 hS' ?_⟩
      rw [Array.setIfInBounds_comm _ _ hji]
      exact h3.2.2
def GateW (P : Program) (md : Region.Mode) (ops : Array Oper) (Q : Exit → Act → World → Prop) (S : World → Prop) (s f : Nat) (listed : Array Bool) (a : Act) (w : World) : Prop :=
  HeadInv md ops ops.size listed → wpAnyG P md ops Q S s f listed a w
theorem takeG {i : Nat} {oi : Oper} {f : Nat} {listed : Array Bool} {a : Act} {w : World} (hi0 : ops.toList[i]? = some oi) (hB : (Region.noSelect ops && decide (s < ops.size) && reaches md ops ops.size s i && (i != s)) = true)
    (hf : Region.free md ops listed i = true) (hr : (Region.ready md ops listed).contains i = true)
    (hQ : ∀ v c a w, Q (.panic c) (a.put oi.dst v) w → Q (.panic c) a w) (hw : Region.wanted oi (yielded ops a.tmps) = true) (hS : S w)
    (h : ∃ v, (∀ w, S w → (execOp a.eval oi).run P w = .ok (.value v) w) ∧ GateW P md ops Q S s f (listed.setIfInBounds i true) (a.put oi.dst v) w) : GateW P md ops Q S s (f + 1) listed a w := fun inv => by
  have hi : ops[i]? = some oi := by rw [← Array.getElem?_toList]; exact hi0
  obtain ⟨v, hv, h⟩ := h
  simp only [Bool.and_eq_true, decide_eq_true_eq, bne_iff_ne, ne_eq] at hB
  obtain ⟨⟨⟨hsel, hs⟩, hre⟩, his⟩ := hB
  have hr' : i ∈ Region.ready md ops listed := by simpa using hr
  exact wpAnyG_first (T := S) hi (Region.noSelect_spec hsel) his (fun l w' inv' hun hg => hg (reaches_gate inv' hre hs hun)) (hQ v) f listed a w inv (Region.free_spec hi hf) hr' (.inl ⟨hw, hv⟩) (fun _ => hS) (h (inv.set hr' (ready_lt hr')))
theorem takeGp {i : Nat} {oi : Oper} {f : Nat} {listed : Array Bool} {a : Act} {w : World} (hi0 : ops.toList[i]? = some oi) (hB : (Region.noSelect ops && (i != s)) = true)
    (hf : Region.free md ops listed i = true) (hr : (Region.ready md ops listed).contains i = true)
    (hQ : ∀ v c a w, Q (.panic c) (a.put oi.dst v) w → Q (.panic c) a w) (hw : Region.wanted oi (yielded ops a.tmps) = true) (hS : S w)
    (h : ∃ v, (∀ w, (execOp a.eval oi).run P w = .ok (.value v) w) ∧ GateW P md ops Q S s f (listed.setIfInBounds i true) (a.put oi.dst v) w) : GateW P md ops Q S s (f + 1) listed a w := fun inv => by
  have hi : ops[i]? = some oi := by rw [← Array.getElem?_toList]; exact hi0
  obtain ⟨v, hv, h⟩ := h
  simp only [Bool.and_eq_true, bne_iff_ne, ne_eq] at hB
  have hr' : i ∈ Region.ready md ops listed := by simpa using hr
  exact wpAnyG_first (T := fun _ => True) hi (Region.noSelect_spec hB.1) hB.2 (fun _ _ _ _ _ => trivial) (hQ v) f listed a w inv (Region.free_spec hi hf) hr' (.inl ⟨hw, fun w _ => hv w⟩) (fun _ => hS) (h (inv.set hr' (ready_lt hr')))
theorem oneG {i : Nat} {oi : Oper} {f : Nat} {listed : Array Bool} {a : Act} {w : World} (hr : Region.ready md ops listed = [i]) (hi0 : ops.toList[i]? = some oi)
    (h : ∀ K : Act → World → Prop, Shut (∀ a w, S w → (S w → GateW P md ops Q S s f (listed.setIfInBounds i true) a w) → K a w) → if Region.wanted oi (yielded ops a.tmps) = true then Oper.wp P oi a w K Q else K (a.put oi.dst undef) w) :
    GateW P md ops Q S s (f + 1) listed a w := fun inv => by
  have hi : ops[i]? = some oi := by rw [← Array.getElem?_toList]; exact hi0
  have hmem : i ∈ Region.ready md ops listed := by rw [hr]; simp
  refine ⟨fun h0 => (by rw [hr] at h0; cases h0), fun j hj => ?_⟩
  rw [hr] at hj
  obtain rfl : j = i := by simpa using hj
  exact wpOp_step hi (fun K' hK => h K' (fun a w hS hW => hK a w ⟨fun _ => hS, hW hS (inv.set hmem (ready_lt hmem))⟩))
theorem oneGs {i : Nat} {oi : Oper} {f : Nat} {listed : Array Bool} {a : Act} {w : World} (hr : Region.ready md ops listed = [i]) (hi0 : ops.toList[i]? = some oi) (hg : (listed.setIfInBounds i true).getD s true = true)
    (h : ∀ K : Act → World → Prop, Shut (∀ a w, GateW P md ops Q S s f (listed.setIfInBounds i true) a w → K a w) → if Region.wanted oi (yielded ops a.tmps) = true then Oper.wp P oi a w K Q else K (a.put oi.dst undef) w) :
    GateW P md ops Q S s (f + 1) listed a w := fun inv => by
  have hi : ops[i]? = some oi := by rw [← Array.getElem?_toList]; exact hi0
  have hmem : i ∈ Region.ready md ops listed := by rw [hr]; simp
  refine ⟨fun h0 => (by rw [hr] at h0; cases h0), fun j hj => ?_⟩
  rw [hr] at hj
  obtain rfl : j = i := by simpa using hj
  exact wpOp_step hi (fun K' hK => h K' (fun a w hW => hK a w ⟨fun h0 => (by rw [hg] at h0; cases h0), hW (inv.set hmem (ready_lt hmem))⟩))
theorem doneG {listed : Array Bool} {a : Act} {w : World} (hr : Region.ready md ops listed = []) (h : Q .normal a w) (f : Nat) : GateW P md ops Q S s f listed a w := fun _ => by
  cases f with
  | zero => exact ⟨hr, h⟩
  | succ f => exact ⟨fun _ => h, by rw [hr]; simp⟩
theorem wp_region_G {id : Nat} {a : Act} {w : World} (s : Nat) (S : World → Prop) (hm : P.follows .mixedOrders = true) (hS : S w.drew)
    (h : S w.drew → GateW P .any ops Q S s ops.size (Array.replicate ops.size false) a w.drew) : (Code.region id ops true).wp P Q a w :=
  wp_region_any hm (wpAny_of_G _ _ _ _ (h hS ⟨by simp, fun j oj _ hl => (by rw [getD_replicate_false] at hl; cases hl), fun t h1 h2 => absurd h1 (by omega)⟩))
end
end Go.Proofs.YtbkjhdohkdeniaaGreatDoor
