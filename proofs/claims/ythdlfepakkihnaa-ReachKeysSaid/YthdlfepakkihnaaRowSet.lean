/- An element of a row of the call's own is stored into. Conditions: none. -/
import Derived.Test.YthdlfepakkihnaaInv
namespace Go.Proofs.Ythdlfepakkihnaa
open Go.RowKit
set_option linter.unusedVariables false
set_option linter.unusedSimpArgs false
set_option maxRecDepth 100000
section
variable {P : Program} {o : Oper} {a : Act} {T : Nat → Prop} {w0 w : World} {rs : List Res} {K : Act → World → Prop} {Q : Exit → Act → World → Prop} {α : Type} {enc : α → List Value} {t e : TypeId} {size bytes : Nat}
theorem wpI_setRow (x y : Operand) (ho : o.op = .store e x y) (E : ElT P enc t e size bytes) (hI : InvT T w0 rs w) (idx : Nat) {g n c i off : Nat} {xs : List α} (v : α) (hi : rs[idx]? = some (.row e size (.slice (some ⟨g, 0, none⟩) n c) xs.length (xs.flatMap enc)))
    (hii : i < xs.length) (hoff : off = i * size) (hx : a.eval x = .pointer (some ⟨g, off, none⟩)) (hy : a.eval y = .agg (enc v).toArray)
    (h : ∀ w', InvT T w0 (rs.set idx (.row e size (.slice (some ⟨g, 0, none⟩) n c) (xs.set i v).length ((xs.set i v).flatMap enc))) w' → K (a.put o.dst undef) w') : o.wp P a w K Q := by
  subst hoff
  have hO := hI.own0 hi
  have hn : n = xs.length := (hO.at_ (List.getElem?_eq_getElem hii)).choose_spec.2.2.2.2
  subst hn
  obtain ⟨iT, z, hIi, hz, hs, hby, hzs⟩ := E.info
  have hle : i * size + size ≤ xs.length * size := by rw [← Nat.succ_mul]; exact Nat.mul_le_mul_right _ hii
  have hthere : w.there g (i * size) (enc v).toArray.size := by
    intro j hj
    have hj' : j < size := by simpa [E.len] using hj
    obtain ⟨g', hA, _, _, hf, _⟩ := hO.at_ (List.getElem?_eq_getElem hii)
    cases hA
    refine ⟨?_, hf _⟩
    have hb : i * size + j < (xs.flatMap enc).length := by rw [flat_len E.len]; omega
    have := World.ownsRow.cells hO (g := g) rfl (i * size + j) _ (List.getElem?_eq_getElem hb)
    rw [Addr.add_lit, Nat.zero_add] at this
    rw [this]; rfl
  refine wp_store_mid e x y ho g (i * size) (enc v).toArray hx hy hthere (by rw [hIi]; simp [hs, E.len]) (by rw [Array.all_eq_true_iff_forall_mem]; intro u hu; exact E.one v u (by simpa using hu)) ?_
  obtain ⟨h1, h2⟩ := grown_setCells (g := g) (enc v) (i * size) w
  refine h _ (hI.turn hi (row := some g) h1 (fun k hk => .inl hk) ?_ fun k hk => .inl hk)
  show (w.setCells g (i * size) (enc v)).ownsRow 0 e size _ (xs.set i v).length ((xs.set i v).flatMap enc)
  rw [List.length_set, ← flat_set_all E.len hii v]
  exact ownsRow_setCells _ _ _ _ hO (by rw [E.len, flat_len E.len]; exact hle)
end
/-- some of them, in whatever order -/
theorem InvT.pick {T : Nat → Prop} {w0 w : World} {rs : List Res} (h : InvT T w0 rs w) (is : List Nat) (rs' : List Res) (hn : is.Nodup) (he : rs'.map some = is.map (fun i => rs[i]?)) : InvT T w0 rs' w := by
  have hat : ∀ (k : Nat) r, rs'[k]? = some r → ∃ i, is[k]? = some i ∧ rs[i]? = some r := fun k r hk => by
    have h1 : (rs'.map some)[k]? = some (some r) := by rw [List.getElem?_map, hk]; rfl
    rw [he, List.getElem?_map] at h1
    cases hi : is[k]? with
    | none => rw [hi] at h1; cases h1
    | some i => rw [hi] at h1; exact ⟨i, rfl, Option.some.inj h1⟩
  refine ⟨h.but, fun k r hk => ?_, fun k r hk g hg => ?_, fun k j r s hkj hk hj g hr hs => ?_⟩
  · obtain ⟨i, -, hi⟩ := hat k r hk
    exact h.ok i r hi
  · obtain ⟨i, -, hi⟩ := hat k r hk
    exact h.low i r hi g hg
  · obtain ⟨i, hi0, hi⟩ := hat k r hk
    obtain ⟨l, hl0, hl⟩ := hat j s hj
    refine h.apart i l r s (fun e => hkj ?_) hi hl g hr hs
    subst e
    exact (List.getElem?_inj (List.getElem?_eq_some_iff.1 hi0).1 hn).1 (hi0.trans hl0.symm)
/-- where a row that holds something lies -/
theorem InvT.form0 {α : Type} {enc : α → List Value} {T : Nat → Prop} {w0 w : World} {rs : List Res} (h : InvT T w0 rs w) {i : Nat} {e : TypeId} {size : Nat} {v : Value} {xs : List α} (hi : rs[i]? = some (.row e size v xs.length (xs.flatMap enc))) (hn : 0 < xs.length) : ∃ g c, v = .slice (some ⟨g, 0, none⟩) xs.length c := by
  rcases (h.ok i _ hi).2 with ⟨rfl, h0⟩ | ⟨g, cap, cur, rfl, _⟩
  · omega
  · exact ⟨g, cap, rfl⟩
/-- those at these places -/
theorem InvT.pickF {T : Nat → Prop} {w0 w : World} {rs : List Res} (h : InvT T w0 rs w) (is : List Nat) (hn : is.Nodup) : InvT T w0 (is.filterMap fun i => rs[i]?) w := by
  refine h.pick (is.filter fun i => (rs[i]?).isSome) _ (hn.filter _) ?_
  clear hn
  induction is with
  | nil => rfl
  | cons i is ih =>
    cases hi : rs[i]? with
    | none => simp [hi, ih]
    | some r => simp [hi, ih]
theorem InvT.joinP {T : Nat → Prop} {w0 w w' : World} {rs rs2 : List Res} (h : InvT T w0 rs w) (h2 : Inv w rs2 w') : InvT T w0 (rs ++ rs2) w' := by
  have h1 := h.on h2.below
  have hz := h.size
  have low2 : ∀ (i : Nat) r, rs2[i]? = some r → ∀ k, r.blk = some k → w.heap.size ≤ k := fun i r hi k hk => (h2.low i r hi k hk).resolve_left id
  refine ⟨h1.but, fun i s hi => ?_, fun i s hi k hk => ?_, fun i j s t hij hi hj k hs ht => ?_⟩
  · rcases Nat.lt_or_ge i rs.length with hl | hl
    · rw [List.getElem?_append_left hl] at hi; exact h1.ok i s hi
    · rw [List.getElem?_append_right hl] at hi; exact h2.ok _ s hi
  · rcases Nat.lt_or_ge i rs.length with hl | hl
    · rw [List.getElem?_append_left hl] at hi; exact h1.low i s hi k hk
    · rw [List.getElem?_append_right hl] at hi
      have := low2 _ s hi k hk
      exact .inr (by omega)
  · rcases Nat.lt_or_ge i rs.length with hl | hl <;> rcases Nat.lt_or_ge j rs.length with hl2 | hl2
    · rw [List.getElem?_append_left hl] at hi; rw [List.getElem?_append_left hl2] at hj; exact h1.apart i j s t hij hi hj k hs ht
    · rw [List.getElem?_append_left hl] at hi; rw [List.getElem?_append_right hl2] at hj
      have := h.lt hi hs
      have := low2 _ t hj k ht
      omega
    · rw [List.getElem?_append_right hl] at hi; rw [List.getElem?_append_left hl2] at hj
      have := h.lt hj ht
      have := low2 _ s hi k hs
      omega
    · rw [List.getElem?_append_right hl] at hi; rw [List.getElem?_append_right hl2] at hj
      exact h2.apart _ _ s t (by omega) hi hj k hs ht
theorem pkf : (∀ (α β : Type) (f : α → Option β) (x : α) (l : List α), (x :: l).filterMap f = match f x with | none => l.filterMap f | some y => y :: l.filterMap f) ∧ (∀ (α β : Type) (f : α → Option β), ([] : List α).filterMap f = []) ∧ (∀ (α : Type) (x : α) (l : List α), (x :: l)[0]? = some x) ∧ (∀ (α : Type) (x : α) (l : List α) (i : Nat), (x :: l)[i + 1]? = l[i]?) :=
  ⟨fun _ _ f x l => by rw [List.filterMap_cons]; cases f x <;> rfl, fun _ _ _ => rfl, fun _ _ _ => rfl, fun _ _ _ _ => rfl⟩
end Go.Proofs.Ythdlfepakkihnaa
