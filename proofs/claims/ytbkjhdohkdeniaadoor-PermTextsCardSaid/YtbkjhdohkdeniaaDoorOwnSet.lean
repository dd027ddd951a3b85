/- A struct stored into a slice of the call's own; a slice's end cut off; an append as a step of a region that draws. Conditions: none. -/
import Derived.Test.YtbkjhdohkdeniaaDoorOwn
import Derived.Test.YtbkjhdohkdeniaaDoorBox
import Derived.Deep.MidRow
namespace Go.Proofs.YtbkjhdohkdeniaaDoor
open Go.RowKit
set_option linter.unusedVariables false
set_option linter.unusedSimpArgs false
set_option maxRecDepth 100000

def setMany : List Value → Nat → List Value → List Value
  | ys, _, [] => ys
  | ys, p, u :: us => setMany (ys.set p u) (p + 1) us
theorem setMany_length : ∀ (us ys : List Value) (p : Nat), (setMany ys p us).length = ys.length
  | [], _, _ => rfl
  | u :: us, ys, p => by rw [setMany, setMany_length us, List.length_set]
theorem setMany_at : ∀ (us ys : List Value) (p q : Nat), p + us.length ≤ ys.length → (setMany ys p us)[q]? = if p ≤ q ∧ q < p + us.length then us[q - p]? else ys[q]?
  | [], ys, p, q, _ => by rw [setMany, if_neg (by simp)]
  | u :: us, ys, p, q, h => by
    rw [setMany, setMany_at us (ys.set p u) (p + 1) q (by simpa [List.length_set, Nat.add_assoc, Nat.add_comm 1] using h)]
    simp only [List.length_cons] at h ⊢
    by_cases h1 : p + 1 ≤ q ∧ q < p + 1 + us.length
    · rw [if_pos h1, if_pos (by omega), show q - p = (q - (p + 1)) + 1 by omega, List.getElem?_cons_succ]
    · rw [if_neg h1]
      by_cases h2 : q = p
      · subst h2
        rw [if_pos (by omega), Nat.sub_self, List.getElem?_cons_zero, List.getElem?_set_self (by omega)]
      · rw [if_neg (by omega), List.getElem?_set_ne (by omega)]
section
variable {w w' : World} {base : Nat} {e : TypeId} {size g n c : Nat} {ys : List Value}
theorem ownsRow_set (h : w.ownsRow base e size (.slice (some ⟨g, 0, none⟩) n c) n ys) {p : Nat} (hp : p < ys.length) (u : Value) : (w.setCell ⟨g, p, none⟩ u).ownsRow base e size (.slice (some ⟨g, 0, none⟩) n c) n (ys.set p u) := by
  refine ⟨by rw [List.length_set]; exact h.1, ?_⟩
  rcases h.2 with ⟨hv, _⟩ | ⟨g', cap, cur, hv, hb, hg, hnc, hcm, hsz, htk⟩
  · cases hv
  · injection hv with hA _ hc
    injection hA with hA
    injection hA with hg0
    subst hg0 hc
    refine .inr ⟨g, c, cur.setIfInBounds p u, rfl, hb, ?_, hnc, hcm, by simpa using hsz, ?_⟩
    · simp [World.setCell, Array.getElem?_modify, hg]
    · rw [Array.toList_setIfInBounds, ← htk, List.take_set]
theorem ownsRow_setCells : ∀ (us : List Value) (p : Nat) (ys : List Value) (w : World), w.ownsRow base e size (.slice (some ⟨g, 0, none⟩) n c) n ys → p + us.length ≤ ys.length → (w.setCells g p us).ownsRow base e size (.slice (some ⟨g, 0, none⟩) n c) n (setMany ys p us)
  | [], _, _, _, h, _ => h
  | u :: us, p, ys, w, h, hl => by
    simp only [List.length_cons] at hl
    exact ownsRow_setCells us (p + 1) (ys.set p u) _ (ownsRow_set h (by omega) u) (by rw [List.length_set]; omega)
theorem grown_setCells : ∀ (us : List Value) (p : Nat) (w : World), w.grownBy (w.setCells g p us) (some g) ∧ (w.setCells g p us).heap.size = w.heap.size
  | [], _, w => ⟨World.grownBy.refl w _, rfl⟩
  | u :: us, p, w => by
    obtain ⟨h1, h2⟩ := grown_setCells us (p + 1) (w.setCell ⟨g, p, none⟩ u)
    have h0 : w.grownBy (w.setCell ⟨g, p, none⟩ u) (some g) := ⟨rfl, rfl, rfl, by simp [World.size_setCell], fun k hk hne => Below.heap_setCell w _ u k (fun e => hne (by rw [e]))⟩
    exact ⟨h0.trans h1, h2.trans (by simp [World.size_setCell])⟩
end
section
variable {P : Program} {α : Type} {enc : α → List Value} {t e : TypeId} {size bytes : Nat}
theorem flat_set_all {xs : List α} (hl : ∀ x, (enc x).length = size) {i : Nat} (hi : i < xs.length) (y : α) : setMany (xs.flatMap enc) (i * size) (enc y) = (xs.set i y).flatMap enc := by
  have hlen := flat_len (xs := xs) hl
  have hle : i * size + size ≤ xs.length * size := by rw [← Nat.succ_mul]; exact Nat.mul_le_mul_right _ hi
  apply List.ext_getElem?
  intro q
  rw [setMany_at _ _ _ _ (by rw [hl, hlen]; exact hle), hl]
  rcases Nat.lt_or_ge q (xs.length * size) with hq | hq
  · rcases Nat.eq_zero_or_pos size with h0 | h0
    · subst h0; omega
    · have hj : q / size < xs.length := Nat.div_lt_of_lt_mul (by rw [Nat.mul_comm]; exact hq)
      have hqn : q = q / size * size + q % size := by rw [Nat.mul_comm]; exact (Nat.div_add_mod q size).symm
      have hm := Nat.mod_lt q h0
      by_cases hc : i * size ≤ q ∧ q < i * size + size
      · rw [if_pos hc]
        have hi' : q / size = i := by
          rw [Nat.div_eq_iff h0]
          omega
        have hx : (xs.set i y)[i]? = some y := List.getElem?_set_self hi
        have := flat_at (enc := enc) (j := q % size) hl hx hm
        rw [hi'] at hqn
        rw [← hqn] at this
        rw [this]
        congr 1
        omega
      · rw [if_neg hc]
        have hne : q / size ≠ i := by
          intro h
          rw [h] at hqn
          exact hc ⟨by omega, by omega⟩
        have hx : (xs.set i y)[q / size]? = some xs[q / size] := by rw [List.getElem?_set_ne (by omega)]; exact List.getElem?_eq_getElem hj
        have h1 := flat_at (enc := enc) (j := q % size) hl hx hm
        have h2 := flat_at (enc := enc) (j := q % size) hl (List.getElem?_eq_getElem hj) hm
        rw [← hqn] at h1 h2
        rw [h1, h2]
  · rw [if_neg (by omega), List.getElem?_eq_none (by rw [hlen]; exact hq), List.getElem?_eq_none (by rw [flat_len hl, List.length_set]; exact hq)]
/-- a struct is stored as the i-th element -/
theorem wpList_store_own {ops : Array Oper} {rest : List Oper} {o : Oper} {a : Act} {w : World} {Q : Exit → Act → World → Prop} (hgd : o.guard = none) (x y : Operand) (ho : o.op = .store e x y)
    (E : ElT P enc t e size bytes) {base g n c i off : Nat} {xs : List α} (v : α) (hO : Own enc e size w base (.slice (some ⟨g, 0, none⟩) n c) xs) (hi : i < xs.length) (hoff : off = i * size) (hx : a.eval x = .pointer (some ⟨g, off, none⟩)) (hy : a.eval y = .agg (enc v).toArray)
    (h : ∀ w', Own enc e size w' base (.slice (some ⟨g, 0, none⟩) n c) (xs.set i v) → w.grownBy w' (some g) → w'.heap.size = w.heap.size → wpList P ops Q rest (a.put o.dst undef) w') : wpList P ops Q (o :: rest) a w := by
  subst hoff
  have hn : n = xs.length := (hO.at_ (List.getElem?_eq_getElem hi)).choose_spec.2.2.2.2
  subst hn
  obtain ⟨iT, z, hI, hz, hs, hby, hzs⟩ := E.info
  have hle : i * size + size ≤ xs.length * size := by rw [← Nat.succ_mul]; exact Nat.mul_le_mul_right _ hi
  have hthere : w.there g (i * size) (enc v).toArray.size := by
    intro j hj
    have hj' : j < size := by simpa [E.len] using hj
    obtain ⟨g', hA, _, _, hf, _⟩ := hO.at_ (List.getElem?_eq_getElem hi)
    cases hA
    refine ⟨?_, hf _⟩
    have hb : i * size + j < (xs.flatMap enc).length := by rw [flat_len E.len]; omega
    have := World.ownsRow.cells hO (g := g) rfl (i * size + j) _ (List.getElem?_eq_getElem hb)
    rw [Addr.add_lit, Nat.zero_add] at this
    rw [this]; rfl
  refine wpList_store_mid hgd e x y ho g (i * size) (enc v).toArray hx hy hthere (by rw [hI]; simp [hs, E.len]) (by rw [Array.all_eq_true_iff_forall_mem]; intro u hu; exact E.one v u (by simpa using hu)) ?_
  obtain ⟨h1, h2⟩ := grown_setCells (g := g) (enc v) (i * size) w
  refine h _ ?_ h1 h2
  unfold Own
  rw [List.length_set, ← flat_set_all E.len hi v]
  exact ownsRow_setCells _ _ _ _ hO (by rw [E.len, flat_len E.len]; exact hle)
/-- the last element is cut off -/
theorem Own.pop {w : World} {base : Nat} {A : Option Addr} {n c : Nat} {xs : List α} (h : Own enc e size w base (.slice A (n + 1) c) xs) (hl : ∀ x, (enc x).length = size) (hn : xs.length = n + 1) : Own enc e size w base (.slice A n c) xs.dropLast := by
  unfold Own at h ⊢
  rw [hn] at h
  rw [List.length_dropLast, hn, Nat.add_sub_cancel]
  have e1 : xs.dropLast.flatMap enc = (xs.flatMap enc).take (n * size) := by
    have h1 : xs = xs.dropLast ++ [xs.getLast (by intro h0; rw [h0] at hn; cases hn)] := (List.dropLast_concat_getLast _).symm
    conv => rhs; rw [h1, List.flatMap_append]
    rw [List.take_append_of_le_length (by rw [flat_len hl, List.length_dropLast, hn, Nat.add_sub_cancel]; exact Nat.le_refl _), List.take_of_length_le (by rw [flat_len hl, List.length_dropLast, hn, Nat.add_sub_cancel]; exact Nat.le_refl _)]
  refine ⟨by rw [flat_len hl, List.length_dropLast, hn, Nat.add_sub_cancel], ?_⟩
  rcases h.2 with ⟨hv, h0⟩ | ⟨g, cap, cur, hv, hb, hg, hnc, hcm, hsz, htk⟩
  · omega
  · injection hv with hA hn' hc
    subst hA hc
    refine .inr ⟨g, c, cur, rfl, hb, hg, by omega, hcm, hsz, ?_⟩
    rw [e1, ← htk, List.take_take]
    congr 1
    rw [Nat.min_eq_left (Nat.mul_le_mul_right _ (by omega))]
/-- an append as a step of a region that draws -/
theorem step_app {ops : Array Oper} {o : Oper} {a : Act} {w : World} {K : Act → World → Prop} {Q : Exit → Act → World → Prop} {G : Prop} (hgd : o.guard = none) (s x : Operand)
    (ho : o.op = .call { callee := .builtin .append, args := #[s, x], argTypes := #[t, t] })
    (E : ElT P enc t e size bytes) {base : Nat} {v : Value} {xs ys : List α} (hown : Own enc e size w base v xs) {B : Nat} {A : Option Addr} {c n : Nat} (hL : Lies enc size w B A ys) (hs : a.eval s = v) (hn : ys.length = n) (hx : a.eval x = .slice A n c)
    (h63 : xs.length + ys.length ≤ maxLen) (hbytes : (xs.length + ys.length) * bytes ≤ 140737488355328) (hbase : base ≤ w.heap.size)
    (h : ∀ v' w', Own enc e size w' base v' (xs ++ ys) → w.grownBy w' v.ownBlock → (v'.ownBlock = v.ownBlock ∨ v'.ownBlock = some w.heap.size) → K (a.put o.dst v') w') :
    if Region.wanted o (yielded ops a.tmps) = true then Oper.wp P o a w K Q else G := by
  have hw : Region.wanted o (yielded ops a.tmps) = true := by simp [Region.wanted, hgd]
  subst hn
  rw [if_pos hw]
  obtain ⟨v', w', hr, h2, h3, h4⟩ := run_app E w o.type hown hL (c := c) h63 hbytes hbase
  unfold Oper.wp execOp
  simp only [ho, resolve, invoke, builtin, Sem.run_bind, Sem.run_pure, Result.andThen_ok, List.map_toArray, List.map_cons, List.map_nil, hs, hx, hr]
  exact h v' w' h2 h3 h4
end
/-- what is left behind the first k elements, as Go cuts it -/
theorem Lies.cut {α : Type} {enc : α → List Value} {size : Nat} {w : World} {B b o k c : Nat} {xs : List α} (h : Lies enc size w B (some ⟨b, o, none⟩) xs) (hc : xs.length ≤ c) :
    Lies enc size w B (if c = k then some ⟨b, o, none⟩ else some ⟨b, o + k * size, none⟩) (xs.drop k) := fun hn => by
  have hk : k < xs.length := by
    rcases Nat.lt_or_ge k xs.length with h1 | h1
    · exact h1
    · exact absurd (List.drop_eq_nil_of_le h1) hn
  obtain ⟨b', o', hA, hb, hx⟩ := h (by rintro rfl; simp at hk)
  cases hA
  rw [if_neg (by omega)]
  refine ⟨b, o + k * size, rfl, hb, fun i x hi j hj => ?_⟩
  rw [List.getElem?_drop] at hi
  have := hx _ _ hi j hj
  rw [← this]
  congr 2
  rw [Nat.add_mul]; omega
theorem Lies.front {α : Type} {enc : α → List Value} {size : Nat} {w : World} {B k : Nat} {A : Option Addr} {xs : List α} (h : Lies enc size w B A xs) : Lies enc size w B A (xs.take k) := fun hn => by
  obtain ⟨b, o, hA, hb, hx⟩ := h (by rintro rfl; simp at hn)
  refine ⟨b, o, hA, hb, fun i x hi j hj => hx i x ?_ j hj⟩
  rw [List.getElem?_take] at hi
  split at hi
  · exact hi
  · cases hi
theorem eqOfAll {α : Type} {xs ys : List α} (hl : xs.length = ys.length) (h : ∀ j, j < xs.length → xs[j]? = ys[j]?) : xs = ys := by
  apply List.ext_getElem?
  intro j
  rcases Nat.lt_or_ge j xs.length with hj | hj
  · exact h j hj
  · rw [List.getElem?_eq_none hj, List.getElem?_eq_none (by omega)]
end Go.Proofs.YtbkjhdohkdeniaaDoor
