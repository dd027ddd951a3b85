/- Linking, plain facts for the reference. Conditions: none. -/
import Derived.Test.YthdlfepakkihnaaLinkM
namespace Go.Proofs.Ythdlfepakkihnaa
open Go.RowKit
set_option linter.unusedVariables false
set_option linter.unusedSimpArgs false
set_option maxRecDepth 100000
theorem fillAt_names : ∀ (ms : List Mod) (b n : Nat), (fillAt entriesOf ms b n).map (·.name) = allNames ms
  | [], _, _ => rfl
  | m :: ms, b, n => by
    rw [fillAt, List.map_append, fillAt_names ms]
    simp [allNames, namesOf, entriesOf, entryOf]
theorem linkEs_names (ms : List Mod) : (linkEs ms).map (·.name) = allNames ms := fillAt_names ms 0 0
theorem findE_isIn (es : List Entry) (s : ByteArray) : (findE es s).2 = isIn (es.map (·.name)) s := by
  have hp : ∀ x : Entry, nameP s x = decide (x.name = s) := fun x => by unfold nameP; exact str_beq _ _
  have hany : isIn (es.map (·.name)) s = es.any (nameP s) := by
    unfold isIn
    rw [List.any_map]
    congr 1
    funext x
    exact (hp x).symm
  rw [hany]
  rcases idxFrom_cases (nameP s) es 0 with h | ⟨i, h⟩
  · rw [findE_none h]
    cases ha : es.any (nameP s)
    · rfl
    · exfalso
      obtain ⟨x, hx, hpx⟩ := List.any_eq_true.1 ha
      obtain ⟨k, hk, he⟩ := List.getElem_of_mem hx
      have h1 : noneTo (nameP s) es es.length = true := noneTo_iff.2 fun j y hj hy => by
        by_cases hpy : nameP s y = true
        · exfalso
          have hnot : idxP (nameP s) es = -1 := h
          unfold idxP idxFrom at hnot
          split at hnot
          · omega
          · rename_i hn
            rw [List.drop_zero, List.findIdx?_eq_none_iff] at hn
            rw [hn y (List.mem_of_getElem? hy)] at hpy
            cases hpy
        · simpa using hpy
      rw [noneTo_iff.1 h1 k x hk (by rw [List.getElem?_eq_getElem hk, he])] at hpx
      cases hpx
  · obtain ⟨_, y, hy, hpy⟩ := idxFrom_lt h
    rw [findE_some h hy]
    exact (List.any_eq_true.2 ⟨y, List.mem_of_getElem? hy, hpy⟩).symm
/-- an import that nobody exports -/
theorem linkE_seven {ms : List Mod} (h8 : ms.length ≤ 8) (hE : ∀ m ∈ ms, modE m = 0) (hT : fromI (twiceF (allNames ms)) (allNames ms) 0 = 0) (h4 : cellsN ms ≤ 400) {m : Mod} (hm : m ∈ ms) {x : Import} (hx : x ∈ m.imports) (hn : isIn (allNames ms) x.name = false) : linkE ms = 7 := by
  have key : ∀ {α : Type} {f : α → Int} {l : List α}, (∀ y ∈ l, f y = 0 ∨ f y = 7) → (∃ y ∈ l, f y = 7) → firstE f l = 7 := by
    intro α f l
    induction l with
    | nil => rintro _ ⟨y, hy, _⟩; cases hy
    | cons y l ih =>
      intro h1 h2
      rw [firstE]
      rcases h1 y (List.mem_cons_self ..) with h | h
      · rw [h]
        refine ih (fun z hz => h1 z (List.mem_cons_of_mem _ hz)) ?_
        obtain ⟨z, hz, hz7⟩ := h2
        rcases List.mem_cons.1 hz with rfl | hz
        · rw [h] at hz7; cases hz7
        · exact ⟨z, hz, hz7⟩
      · rw [h]; rfl
  have zero : ∀ {α : Type} {f : α → Int} {l : List α}, (∀ y ∈ l, f y = 0 ∨ f y = 7) → firstE f l = 0 ∨ firstE f l = 7 := by
    intro α f l h
    by_cases h2 : ∃ y ∈ l, f y = 7
    · exact .inr (key h h2)
    · exact .inl (firstE_zero fun y hy => (h y hy).resolve_right fun h7 => h2 ⟨y, hy, h7⟩)
  have hf : ∀ x : Import, noneF (allNames ms) x = 0 ∨ noneF (allNames ms) x = 7 := fun x => by unfold noneF; split <;> simp
  unfold linkE
  rw [if_neg (by omega), firstE_zero hE, hT]
  show (if 400 < cellsN ms then 9 else firstE (impsE (allNames ms)) ms) = 7
  rw [if_neg (by omega)]
  exact key (fun y _ => zero fun z _ => hf z) ⟨m, hm, key (fun z _ => hf z) ⟨x, hx, by unfold noneF; rw [if_neg (by simp [hn])]⟩⟩
theorem linkE_zero {ms : List Mod} (h8 : ms.length ≤ 8) (hE : ∀ m ∈ ms, modE m = 0) (hT : fromI (twiceF (allNames ms)) (allNames ms) 0 = 0) (h4 : cellsN ms ≤ 400) (hI : ∀ m ∈ ms, ∀ x ∈ m.imports, isIn (allNames ms) x.name = true) : linkE ms = 0 := by
  unfold linkE
  rw [if_neg (by omega), firstE_zero hE, hT]
  show (if 400 < cellsN ms then 9 else firstE (impsE (allNames ms)) ms) = 0
  rw [if_neg (by omega)]
  exact firstE_zero fun m hm => firstE_zero fun x hx => by unfold noneF; rw [if_pos (hI m hm x hx)]
theorem cellsN_180 : ∀ {ms : List Mod}, (∀ m ∈ ms, modE m = 0) → cellsN ms ≤ 180 * ms.length
  | [], _ => Nat.zero_le _
  | m :: ms, h => by
    have h1 := modE_sizes (show (modE m != 0) = false by rw [h m (List.mem_cons_self ..)]; rfl)
    have h2 := cellsN_180 (ms := ms) fun m' hm => h m' (List.mem_cons_of_mem _ hm)
    rw [cellsN_cons, List.length_cons]
    unfold sizeM
    omega
theorem cellsN_1440 {ms : List Mod} (h8 : ms.length ≤ 8) (h : ∀ m ∈ ms, modE m = 0) (k : Nat) : cellsN (ms.take k) ≤ 1440 := by
  have h1 := cellsN_180 (ms := ms.take k) fun m hm => h m (List.mem_of_mem_take hm)
  rw [List.length_take] at h1; omega
theorem nmAt_len {ms : List Mod} {k j : Nat} {m : Mod} {x : Label} (hx : m.exports[j]? = some x) : (nmAt ms k m j).length = (allNames (ms.take k)).length + j := by
  have := (List.getElem?_eq_some_iff.1 hx).1
  unfold nmAt; simp; omega
end Go.Proofs.Ythdlfepakkihnaa
