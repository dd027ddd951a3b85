/- copy between slices of structs, rows as blocks and back, append of a make that grows. Conditions: none. -/
import Derived.Test.YthdlfepakkihnaaInv
import Derived.Laws.IdiomCopy
import Derived.Lib.Overlaps
import Derived.Lib.AppendZerosOnto
import Derived.Laws.NewBlocks
namespace Go.Proofs.Ythdlfepakkihnaa
open Go.RowKit
set_option linter.unusedVariables false
set_option linter.unusedSimpArgs false
set_option maxRecDepth 100000
section
variable {P : Program}
/-- copy of elements of several cells -/
theorem run_copyS (w : World) (dT sT ty elem : TypeId) (size b o dLen dCap : Nat) (a : Addr) (sLen sCap : Nat) (cs : List Value)
    (hu : P.underlying dT = some (.slice elem)) (hs : (P.info? elem).map (·.size) = some size) (hn : cs.length = Nat.min sLen dLen * size)
    (hsrc : ∀ (j : Nat) v, cs[j]? = some v → w.cell? (a.add j) = some v) (hc : ∀ j, j < cs.length → (w.cell? ⟨b, o + j, none⟩).isSome = true) (hf : ∀ j, j < cs.length → w.frozen? ⟨b, o + j, none⟩ = false) (h1 : ∀ v ∈ cs, v.oneCell' = true) :
    (Builtin.copy_ #[dT, sT] ty #[.slice (some ⟨b, o, none⟩) dLen dCap, .slice (some a) sLen sCap]).run P w = .ok (goInt (Nat.min sLen dLen)) (w.setCells b o cs) := by
  have hl := run_loadCells_list (P := P) w a cs hsrc
  have hst := run_storeCells_cells (P := P) b o cs 0 w (by simpa using hc) (by simpa using hf) h1
  cases hq : P.info? elem with
  | none => simp [hq] at hs
  | some i =>
    have hi : i.size = size := by simpa [hq] using hs
    simp [Builtin.copy_, run_underlying hu, Builtin.lenOf, Builtin.firstCells, sizeOf, typeInfo, hq, hi, ← hn, hl, hst]
end
section
variable {P : Program} {o : Oper} {a : Act} {T : Nat → Prop} {w0 w : World} {rs : List Res} {K : Act → World → Prop} {Q : Exit → Act → World → Prop}
theorem wpI_copy (d s : Operand) {t t' : TypeId} (ho : o.op = .call { callee := .builtin .copy, args := #[d, s], argTypes := #[t, t'] }) (e : TypeId) (size : Nat) (hu : P.underlying t = some (.slice e)) (hz : (P.info? e).map (·.size) = some size) (hI : InvT T w0 rs w)
    {g off dl dc g' off' sl sc : Nat} (hd : a.eval d = .slice (some ⟨g, off, none⟩) dl dc) (hs : a.eval s = .slice (some ⟨g', off', none⟩) sl sc) (i j : Nat) {ty ty' : TypeId} {cs cs' : Array Value} (hi : rs[i]? = some (.box g ty cs)) (hj : rs[j]? = some (.box g' ty' cs'))
    (us : List Value) (hn : us.length = Nat.min sl dl * size) (hsrc : ∀ (k : Nat) v, us[k]? = some v → cs'[off' + k]? = some v) (hroom : off + us.length ≤ cs.size) (h1 : ∀ v ∈ us, v.oneCell' = true)
    (h : ∀ w', InvT T w0 (rs.set i (.box g ty (setMany cs.toList off us).toArray)) w' → K (a.put o.dst (goInt (Nat.min sl dl))) w') : o.wp P a w K Q := by
  have hr := run_copyS (P := P) w t t' o.type e size g off dl dc ⟨g', off', none⟩ sl sc us hu hz hn (fun k v hk => by rw [Addr.add_lit, hI.cell hj]; exact hsrc k v hk) (fun k hk => by rw [hI.cell hi, Array.getElem?_eq_getElem (by omega)]; rfl) (fun k hk => (hI.box hi).frozen _) h1
  unfold Oper.wp execOp
  simp only [ho, resolve, invoke, builtin, Sem.run_bind, Sem.run_pure, Result.andThen_ok, List.map_toArray, List.map_cons, List.map_nil, hd, hs, hr]
  obtain ⟨h2, h3⟩ := grown_setCells (g := g) us off w
  exact h _ (hI.put hi h2 ((hI.box hi).setCells _ _ _ _))
/-- append of a make that does not fit: a new block -/
theorem wpI_appZ (s x : Operand) {t tn : TypeId} (ho : o.op = .call { callee := .builtin .append, args := #[s, x], argTypes := #[t, tn] }) (e : TypeId) (i0 : TypeInfo) (z : Value) (kq kn : IntKind) (hu : P.underlying t = some (.slice e)) (hun : P.underlying tn = some (.int kn)) (hi0 : P.info? e = some i0) (hz : i0.zero = some z) (hzs : z.cells.size = i0.size) (hpos : 0 < i0.size)
    (hI : InvT T w0 rs w) {g k c m : Nat} (hs : a.eval s = .slice (some ⟨g, 0, none⟩) k c) (hx : a.eval x = .int kq m) (i : Nat) {ty : TypeId} {cs : Array Value} (hi : rs[i]? = some (.box g ty cs))
    (us : List Value) (hn : us.length = k * i0.size) (hsrc : ∀ (j : Nat) v, us[j]? = some v → cs[j]? = some v) (hm : 0 < m) (hfull : c < k + m) (hbig : (k + m) * i0.bytes ≤ 140737488355328) (hby : 0 < i0.bytes) (q : Nat) (hq : k + m = q)
    (h : ∀ g' G ROW w', InvT T w0 (rs ++ [.box g' e ROW]) w' → q ≤ G → G ≤ maxLen → ROW.size = G * i0.size → (∀ (j : Nat) v, us[j]? = some v → ROW[j]? = some v) → K (a.put o.dst (.slice (some ⟨g', 0, none⟩) q G)) w') : o.wp P a w K Q := by
  subst hq
  have hle : k + m ≤ 140737488355328 := Nat.le_trans (Nat.le_mul_of_pos_right _ hby) hbig
  have hold : (Builtin.firstCells i0.size k (.slice (some ⟨g, 0, none⟩) k c)).run P w.drew = .ok us.toArray w.drew := run_firstCells_some w.drew i0.size k ⟨g, 0, none⟩ k c us hn (fun j v hj => by
      rw [Addr.add_lit, Nat.zero_add]
      exact (hI.drew.cell hi j).trans (hsrc j v hj))
  have hr := Lib.run_append_grow_zeros (P := P) w t tn o.type e i0 z kq kn hu hun hi0 hz (some ⟨g, 0, none⟩) k c us hold m hm hpos hfull (by omega) (Nat.le_trans (Nat.mul_le_mul_right _ (Nat.le_add_left m k)) (by omega)) (growslice_fits hfull hbig)
  unfold Oper.wp execOp
  simp only [ho, resolve, invoke, builtin, Sem.run_bind, Sem.run_pure, Result.andThen_ok, List.map_toArray, List.map_cons, List.map_nil, hs, hx, hr]
  have hG := grownCap_ge w (k + m) c e
  refine h _ _ _ _ (hI.drew.alloc e _) hG (grownCap_le_maxLen w (k + m) c e (by unfold maxLen; omega)) ?_ (fun j v hj => ?_)
  · simp only [Array.size_append, List.size_toArray, hn, Builtin.zeroCells]
    simp [hzs]
    rw [← Nat.add_mul, ← Nat.add_mul]
    congr 1
    omega
  · have hj' := (List.getElem?_eq_some_iff.1 hj).1
    rw [Array.append_assoc, Array.getElem?_append_left (by simpa using hj')]
    simpa using hj
end
section
variable {T : Nat → Prop} {w0 w : World} {rs : List Res}
/-- a row seen as the block it lies in -/
theorem InvT.rowBox (h : InvT T w0 rs w) {i g n cap size : Nat} {e : TypeId} {us : List Value} (hi : rs[i]? = some (.row e size (.slice (some ⟨g, 0, none⟩) n cap) n us)) : ∃ cur, InvT T w0 (rs.set i (.box g e cur)) w ∧ cur.size = cap * size ∧ n ≤ cap ∧ cap ≤ maxLen ∧ us.length = n * size ∧ ∀ (j : Nat) v, us[j]? = some v → cur[j]? = some v := by
  have ho := h.ok i _ hi
  rcases ho.2 with ⟨hn, _⟩ | ⟨g', cap', cur, hv, _, hg, h1, h2, h3, h4⟩
  · cases hn
  · cases hv
    refine ⟨cur, h.turn hi (World.grownBy.refl w none) (fun k hk => by cases hk) (show Box w g e cur from hg) (fun k hk => .inl hk), h3, h1, h2, ho.1, fun j v hj => ?_⟩
    rw [← h4, List.getElem?_take] at hj
    split at hj
    · simpa using hj
    · cases hj
theorem InvT.rowBox' (h : InvT T w0 rs w) {i n cap size : Nat} {A : Option Addr} {e : TypeId} {us : List Value} (hi : rs[i]? = some (.row e size (.slice A n cap) n us)) (h0 : 0 < n) : ∃ g cur, A = some ⟨g, 0, none⟩ ∧ InvT T w0 (rs.set i (.box g e cur)) w ∧ cur.size = cap * size ∧ n ≤ cap ∧ cap ≤ maxLen ∧ us.length = n * size ∧ ∀ (j : Nat) v, us[j]? = some v → cur[j]? = some v := by
  obtain ⟨g, rfl⟩ : ∃ g, A = some ⟨g, 0, none⟩ := by
    rcases (h.ok i _ hi).2 with ⟨_, h1⟩ | ⟨g, c, cur, hv, _⟩
    · omega
    · cases hv; exact ⟨g, rfl⟩
  obtain ⟨cur, h1⟩ := h.rowBox hi
  exact ⟨g, cur, rfl, h1⟩
/-- and back -/
theorem InvT.boxRow (h : InvT T w0 rs w) {i g n cap size : Nat} {e : TypeId} {cur : Array Value} {us : List Value} (hi : rs[i]? = some (.box g e cur)) (hc : cur.size = cap * size) (hn : n ≤ cap) (hm : cap ≤ maxLen) (hu : us.length = n * size) (hus : ∀ (j : Nat) v, us[j]? = some v → cur[j]? = some v) : InvT T w0 (rs.set i (.row e size (.slice (some ⟨g, 0, none⟩) n cap) n us)) w := by
  refine h.turn hi (World.grownBy.refl w none) (fun k hk => by cases hk) ⟨hu, .inr ⟨g, cap, cur, rfl, Nat.zero_le _, h.box hi, hn, hm, hc, ?_⟩⟩ (fun k hk => .inl hk)
  apply List.ext_getElem?
  intro j
  rw [List.getElem?_take]
  split
  · obtain ⟨v, hv⟩ : ∃ v, us[j]? = some v := ⟨_, List.getElem?_eq_getElem (by omega)⟩
    rw [hv]
    simpa using hus j v hv
  · rw [List.getElem?_eq_none (by omega)]
end
/-- cells moved up and others put in the gap -/
theorem gap_cells {cur : List Value} {us vs : List Value} {k m : Nat} (hk : k ≤ us.length) (hc : us.length + m ≤ cur.length) (hv : vs.length = m) (hus : ∀ (j : Nat) v, us[j]? = some v → cur[j]? = some v) :
    ∀ (j : Nat) v, (us.take k ++ vs ++ us.drop k)[j]? = some v → (setMany (setMany cur (k + m) (us.drop k)) k vs)[j]? = some v := by
  intro j v hj
  have hl1 : (setMany cur (k + m) (us.drop k)).length = cur.length := setMany_length _ _ _
  rw [setMany_at _ _ _ _ (by rw [hl1]; omega)]
  rcases Nat.lt_or_ge j k with h1 | h1
  · rw [if_neg (by omega), setMany_at _ _ _ _ (by rw [List.length_drop]; omega), if_neg (by omega)]
    rw [List.append_assoc, List.getElem?_append_left (by rw [List.length_take]; omega), List.getElem?_take, if_pos h1] at hj
    exact hus j v hj
  · rw [List.append_assoc, List.getElem?_append_right (by rw [List.length_take]; omega), List.length_take, Nat.min_eq_left hk] at hj
    rcases Nat.lt_or_ge j (k + m) with h2 | h2
    · rw [if_pos ⟨h1, by omega⟩]
      rwa [List.getElem?_append_left (by omega)] at hj
    · rw [if_neg (by omega), setMany_at _ _ _ _ (by rw [List.length_drop]; omega)]
      rw [List.getElem?_append_right (by omega)] at hj
      have h3 := (List.getElem?_eq_some_iff.1 hj).1
      rw [List.length_drop] at h3
      rw [if_pos ⟨h2, by rw [List.length_drop]; omega⟩, ← hj]
      congr 1
      omega
/-- the same in a new block, of which the first part is known -/
theorem gap_new {cur : List Value} {us vs : List Value} {k m : Nat} (hk : k ≤ us.length) (hc : us.length + m ≤ cur.length) (hv : vs.length = m) (hus : ∀ (j : Nat) v, (us.take k)[j]? = some v → cur[j]? = some v) :
    ∀ (j : Nat) v, (us.take k ++ vs ++ us.drop k)[j]? = some v → (setMany (setMany cur k vs) (k + m) (us.drop k))[j]? = some v := by
  intro j v hj
  have hl1 : (setMany cur k vs).length = cur.length := setMany_length _ _ _
  rw [setMany_at _ _ _ _ (by rw [hl1, List.length_drop]; omega)]
  rcases Nat.lt_or_ge j k with h1 | h1
  · rw [if_neg (by omega), setMany_at _ _ _ _ (by omega), if_neg (by omega)]
    rw [List.append_assoc, List.getElem?_append_left (by rw [List.length_take]; omega)] at hj
    exact hus j v hj
  · rw [List.append_assoc, List.getElem?_append_right (by rw [List.length_take]; omega), List.length_take, Nat.min_eq_left hk] at hj
    rcases Nat.lt_or_ge j (k + m) with h2 | h2
    · rw [if_neg (by omega), setMany_at _ _ _ _ (by omega), if_pos ⟨h1, by omega⟩]
      rwa [List.getElem?_append_left (by omega)] at hj
    · rw [List.getElem?_append_right (by omega)] at hj
      have h3 := (List.getElem?_eq_some_iff.1 hj).1
      rw [List.length_drop] at h3
      rw [if_pos ⟨h2, by rw [List.length_drop]; omega⟩, ← hj]
      congr 1
      omega
end Go.Proofs.Ythdlfepakkihnaa
