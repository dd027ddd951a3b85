/- What the parts say: Slices of the call's own, read as lists of plain data: made, appended to, kept over calls, written in place. Conditions: none. -/
import Derived.Test.YtbkjhdohkdeniaaGreatDoorP02
import Derived.Maps.AppendAt
import Derived.Laws.MakeOwn
import Derived.OwnWalk
import Derived.Deep.Draws
import Derived.Lib.SliceRun
import Derived.Shelf.Abstract
set_option linter.unusedVariables false
set_option linter.unusedSimpArgs false
namespace Go.Proofs.YtbkjhdohkdeniaaGreatDoor
open Go.RowKit
set_option maxRecDepth 100000

structure ElT (P : Program) {α : Type} (enc : α → List Value) (t e : TypeId) (size bytes : Nat) : Prop where
  under : P.underlying t = some (.slice e)
  info : ∃ (i : TypeInfo) (z : Value), P.info? e = some i ∧ i.zero = some z ∧ i.size = size ∧ i.bytes = bytes ∧ z.cells.size = size
  pos : 0 < size
  len : ∀ x, (enc x).length = size
  one : ∀ x, ∀ u ∈ enc x, u.oneCell' = true

theorem Lies.of_none {α : Type} {enc : α → List Value} {size : Nat} {w : World} {B : Nat} {xs : List α} (h : Lies enc size w B none xs) : xs = [] := by
  cases xs with
  | nil => rfl
  | cons y ys => obtain ⟨b, o, h, _⟩ := h (by simp); cases h
def Own {α : Type} (enc : α → List Value) (e : TypeId) (size : Nat) (w : World) (base : Nat) (v : Value) (xs : List α) : Prop :=
  w.ownsRow base e size v xs.length (xs.flatMap enc)

section
variable {α : Type} {enc : α → List Value} {e : TypeId} {size : Nat} {w w' : World} {base : Nat} {v : Value} {xs ys : List α}
theorem flat_len (hl : ∀ x, (enc x).length = size) : (xs.flatMap enc).length = xs.length * size := by
  induction xs with
  | nil => simp
  | cons x xs ih => simp [List.flatMap_cons, ih, hl, Nat.succ_mul, Nat.add_comm]
theorem flat_at (hl : ∀ x, (enc x).length = size) {i j : Nat} {x : α} (hi : xs[i]? = some x) (hj : j < size) : (xs.flatMap enc)[i * size + j]? = (enc x)[j]? := by
  induction xs generalizing i with
  | nil => simp at hi
  | cons y ys ih =>
    rw [List.flatMap_cons]
    match i, hi with
    | 0, hi =>
      simp at hi
      subst hi
      rw [Nat.zero_mul, Nat.zero_add, List.getElem?_append_left (by rw [hl]; exact hj)]
    | i + 1, hi =>
      simp at hi
      rw [List.getElem?_append_right (by rw [hl, Nat.succ_mul]; omega), hl, Nat.succ_mul, show i * size + size + j - size = i * size + j by omega]
      exact ih hi
theorem flat_split (hl : ∀ x, (enc x).length = size) (hp : 0 < size) {n : Nat} {u : Value} (h : (xs.flatMap enc)[n]? = some u) : ∃ (i : Nat) (x : α), xs[i]? = some x ∧ n = i * size + n % size ∧ (enc x)[n % size]? = some u := by
  have hlt : n < xs.length * size := by rw [← flat_len (enc := enc) hl]; exact (List.getElem?_eq_some_iff.1 h).1
  have hi : n / size < xs.length := Nat.div_lt_of_lt_mul (by rw [Nat.mul_comm]; exact hlt)
  have hx : xs[n / size]? = some xs[n / size] := List.getElem?_eq_getElem hi
  have hn : n = n / size * size + n % size := by rw [Nat.mul_comm]; exact (Nat.div_add_mod n size).symm
  refine ⟨n / size, _, hx, hn, ?_⟩
  rw [← flat_at hl hx (Nat.mod_lt _ hp), ← hn]
  exact h
theorem Own.form (h : Own enc e size w base v xs) : ∃ A c, v = .slice A xs.length c := by
  rcases h.2 with ⟨rfl, hn⟩ | ⟨g, cap, cur, rfl, _⟩
  · exact ⟨none, 0, by rw [hn]⟩
  · exact ⟨_, _, rfl⟩
theorem Own.nil_ : Own enc e size w base (.slice none 0 0) [] := World.ownsRow_nil w base e size
theorem Own.made (w : World) (cur : Array Value) (cap base : Nat) (hb : base ≤ w.heap.size) (hm : cap ≤ maxLen) (hs : cur.size = cap * size) : Own enc e size (w.alloc (.cells cur e)) base (.slice (some ⟨w.heap.size, 0, none⟩) 0 cap) [] :=
  World.ownsRow_made w cur cap hb hm hs
theorem Own.lt (h : Own enc e size w base v xs) : ∀ k, v.ownBlock = some k → base ≤ k ∧ k < w.heap.size := World.ownsRow.lt h
theorem Own.keep (h : Own enc e size w base v xs) (hk : ∀ k, v.ownBlock = some k → w'.heap[k]? = w.heap[k]?) : Own enc e size w' base v xs := by
  refine ⟨h.1, ?_⟩
  rcases h.2 with hn | ⟨g, cap, cur, rfl, hb, hg, rest⟩
  · exact .inl hn
  · exact .inr ⟨g, cap, cur, rfl, hb, (hk g rfl).trans hg, rest⟩
theorem Own.below {B : Nat} (h : Own enc e size w base v xs) (hb : Below B w w') (hB : w.heap.size ≤ B) : Own enc e size w' base v xs := h.keep fun k hk => hb.block k (by have := (h.lt k hk).2; omega)
theorem Own.kept {row : Option Nat} (h : Own enc e size w base v xs) (hg : w.grownBy w' row) (hne : v.ownBlock ≠ row ∨ v.ownBlock = none) : Own enc e size w' base v xs := h.keep fun k hk => by
  refine hg.block k (h.lt k hk).2 fun he => ?_
  rcases hne with hn | hn
  · exact hn (hk.trans he)
  · rw [hk] at hn; cases hn
theorem Own.alloc (h : Own enc e size w base v xs) (o : Obj) : Own enc e size (w.alloc o) base v xs := World.ownsRow.alloc h o
theorem Own.drew (h : Own enc e size w base v xs) : Own enc e size w.drew base v xs := h
theorem Own.base_mono {b : Nat} (h : Own enc e size w base v xs) (hb : b ≤ base) : Own enc e size w b v xs := by
  refine ⟨h.1, ?_⟩
  rcases h.2 with hn | ⟨g, cap, cur, rfl, hg, rest⟩
  · exact .inl hn
  · exact .inr ⟨g, cap, cur, rfl, by omega, rest⟩
theorem Own.liesB (h : Own enc e size w base v xs) (hl : ∀ x, (enc x).length = size) {A : Option Addr} {n c : Nat} (hv : v = .slice A n c) : Lies enc size w w.heap.size A xs := fun hn => by
  have hpos : 0 < xs.length := List.length_pos_iff.2 hn
  rcases h.2 with ⟨rfl, h0⟩ | ⟨g, cap, cur, rfl, _, hg, _⟩
  · omega
  · injection hv with hA
    subst hA
    refine ⟨g, 0, rfl, (Array.getElem?_eq_some_iff.1 hg).1, fun i x hi j hj => ?_⟩
    rw [Nat.zero_add]
    have hf := flat_at (enc := enc) hl hi hj
    have hx : (enc x)[j]? = some ((enc x)[j]'(by rw [hl]; exact hj)) := List.getElem?_eq_getElem _
    rw [hx] at hf ⊢
    have := World.ownsRow.cells h (g := g) rfl _ _ hf
    rw [Addr.add_lit, Nat.zero_add] at this
    exact this
theorem Own.lies (h : Own enc e size w base v xs) (hl : ∀ x, (enc x).length = size) : ∃ A c, v = .slice A xs.length c ∧ Lies enc size w w.heap.size A xs := by
  obtain ⟨A, c, hv⟩ := h.form
  exact ⟨A, c, hv, h.liesB hl hv⟩
end

section
variable {P : Program} {α : Type} {enc : α → List Value} {t e : TypeId} {size bytes : Nat}
theorem run_app (E : ElT P enc t e size bytes) (w : World) (ty : TypeId) {base : Nat} {v : Value} {xs ys : List α} (hown : Own enc e size w base v xs) {B : Nat} {A : Option Addr} {c : Nat} (hL : Lies enc size w B A ys)
    (h63 : xs.length + ys.length ≤ maxLen) (hbytes : (xs.length + ys.length) * bytes ≤ 140737488355328) (hbase : base ≤ w.heap.size) :
    ∃ v' w', (Builtin.append_ #[t, t] ty #[v, .slice A ys.length c]).run P w = .ok v' w' ∧ Own enc e size w' base v' (xs ++ ys) ∧ w.grownBy w' v.ownBlock ∧ (v'.ownBlock = v.ownBlock ∨ v'.ownBlock = some w.heap.size) := by
  obtain ⟨i, z, hi, hz, hs, hby, hzs⟩ := E.info
  cases A with
  | none =>
    have hy : ys = [] := by
      cases ys with
      | nil => rfl
      | cons y ys => obtain ⟨b, o, h, _⟩ := hL (by simp); cases h
    subst hy
    refine ⟨v, w, ?_, by simpa using hown, World.grownBy.refl w _, .inl rfl⟩
    rcases hown.2 with ⟨rfl, h0⟩ | ⟨g, cap, cur, rfl, _, _, hnc, _⟩
    · simp [Builtin.append_, run_underlying E.under, sizeOf, typeInfo, hi, Builtin.lenOf, Builtin.firstCells]
    · simp [Builtin.append_, run_underlying E.under, sizeOf, typeInfo, hi, Builtin.lenOf, Builtin.firstCells, hnc, storeCells]
  | some a =>
    have hcells : ∀ (j : Nat) u, (ys.flatMap enc)[j]? = some u → w.cell? (a.add j) = some u := fun j u hj => by
      obtain ⟨i, x, hx, hn, hu⟩ := flat_split (enc := enc) E.len E.pos hj
      obtain ⟨b, o, hA, _, hc⟩ := hL (by rintro rfl; simp at hx)
      cases hA
      rw [Addr.add_lit, hn, ← Nat.add_assoc, hc i x hx _ (Nat.mod_lt _ E.pos)]
      exact hu
    obtain ⟨v', w', hr, h2, h3, _, h5⟩ := run_append_own_at (P := P) w base t ty e i z size bytes E.under hi hz hs hby hzs E.pos v xs.length (xs.flatMap enc) hown a ys.length c (ys.flatMap enc) (flat_len E.len) hcells
      (fun u hu => by obtain ⟨x, _, hx⟩ := List.mem_flatMap.1 hu; exact E.one x u hx) h63 hbytes hbase
    refine ⟨v', w', hr, ?_, h3, h5⟩
    unfold Own
    rw [List.length_append, List.flatMap_append]
    exact h2
theorem wpList_app {ops : Array Oper} {rest : List Oper} {o : Oper} {a : Act} {w : World} {Q : Exit → Act → World → Prop} (hgd : o.guard = none) (s x : Operand)
    (ho : o.op = .call { callee := .builtin .append, args := #[s, x], argTypes := #[t, t] })
    (E : ElT P enc t e size bytes) {base : Nat} {v : Value} {xs ys : List α} (hown : Own enc e size w base v xs) {B : Nat} {A : Option Addr} {c n : Nat} (hL : Lies enc size w B A ys) (hs : a.eval s = v) (hn : ys.length = n) (hx : a.eval x = .slice A n c)
    (h63 : xs.length + ys.length ≤ maxLen) (hbytes : (xs.length + ys.length) * bytes ≤ 140737488355328) (hbase : base ≤ w.heap.size)
    (h : ∀ v' w', Own enc e size w' base v' (xs ++ ys) → w.grownBy w' v.ownBlock → (v'.ownBlock = v.ownBlock ∨ v'.ownBlock = some w.heap.size) → wpList P ops Q rest (a.put o.dst v') w') : wpList P ops Q (o :: rest) a w := by
  subst hn
  refine wpList_plain hgd fun K hK => ?_
  obtain ⟨v', w', hr, h2, h3, h4⟩ := run_app E w o.type hown hL (c := c) h63 hbytes hbase
  unfold Oper.wp execOp
  simp only [ho, resolve, invoke, builtin, Sem.run_bind, Sem.run_pure, Result.andThen_ok, List.map_toArray, List.map_cons, List.map_nil, hs, hx, hr]
  exact hK _ _ (h v' w' h2 h3 h4)
end
theorem Lies.one {α : Type} {enc : α → List Value} {size : Nat} (w : World) (cs : Array Value) (t : TypeId) (x : α) {b : Nat} (hb : b = w.heap.size) (h : ∀ j, j < size → cs[j]? = (enc x)[j]?) : Lies enc size (w.alloc (.cells cs t)) (b + 1) (some ⟨b, 0, none⟩) [x] := by
  subst hb
  have := Lies.single w cs t x h
  rwa [World.size_alloc] at this
def RetOwn {α : Type} (enc : α → List Value) (e : TypeId) (size : Nat) (w : World) (xs : List α) (f : Value → Value) : Ending → World → Prop := fun ed w' =>
  ∃ A c, ed = .returned (f (.slice A xs.length c)) ∧ Own enc e size w' w.heap.size (.slice A xs.length c) xs ∧ Lies enc size w' w'.heap.size A xs ∧ Below w.heap.size w w'
theorem RetOwn.mk {α : Type} {enc : α → List Value} {e : TypeId} {size : Nat} {w w' : World} {xs : List α} {f : Value → Value} {v : Value} (hl : ∀ x, (enc x).length = size) (h : Own enc e size w' w.heap.size v xs) (hb : Below w.heap.size w w') : RetOwn enc e size w xs f (.returned (f v)) w' := by
  obtain ⟨A, c, rfl, hL⟩ := h.lies hl
  exact ⟨A, c, rfl, h, hL, hb⟩
theorem Below.app {B : Nat} {a w w' : World} {row : Option Nat} (h : Below B a w) (hg : w.grownBy w' row) (hB : B ≤ w.heap.size) (hr : ∀ k, row = some k → B ≤ k) : Below B a w' := h.grown hg hB hr

def encI (n : Int) : List Value := [.int .i64 n]
theorem el_I : ElT Tryz.prog encI 32 3 1 8 where
  under := Tryz.underlying32
  info := by
    obtain ⟨i0, hi, hz0, hz1, hz2⟩ := info_parts (show (Tryz.prog.info? 3).map (fun i => (i.zero, i.size, i.bytes)) = some (some (.int .i64 0), 1, 8) by kernel_rfl)
    exact ⟨i0, _, hi, hz0, hz1, hz2, rfl⟩
  pos := by decide
  len := fun _ => rfl
  one := fun x u hu => by
    simp only [encI, List.mem_cons, List.not_mem_nil, or_false] at hu
    rcases hu with rfl <;> rfl
theorem c_Clone_I (A : Option Addr) (c : Nat) (xs : List _) (w : World) (hn : xs.length ≤ maxLen) (hbig : xs.length * 8 ≤ 140737488355328) (hL : Lies encI 1 w w.heap.size A xs) :
    Calls Tryz.prog 41 #[.slice A xs.length c] w (RetOwn encI 3 1 w xs fun v => v) := by
  have q22 := fun (w : World) (a : Option Addr) (n c n' c' : Nat) => Lib.run_eql_slice_nil (P := Tryz.prog) w _ _ a n c n' c' Tryz.underlying32
  cases A with
  | none =>
    have hx : xs = [] := hL.of_none
    subst hx
    go_enter Tryz.func41, Tryz.ntmps41
    go_wp2
    go_ret
    exact RetOwn.mk (f := fun v => v) (fun _ => rfl) Own.nil_ (by (repeat' (first | (with_reducible exact Below.refl _ _) | (with_reducible assumption) | (with_reducible refine Below.alloc ?_ ?_ _) | (with_reducible refine Below.drew ?_) | (with_reducible refine Below.setCell ?_ ?_ _) | (refine Below.trans ?_ (Below.mono (by with_reducible assumption) ?_)) | go_size)))
  | some a =>
    have H := Lib.hid hL
    clear hL
    go_enter Tryz.func41, Tryz.ntmps41
    go_wp2_with (at_builtin; refine wpList_app rfl _ _ rfl el_I (Own.made w #[] 0 w.heap.size (Nat.le_refl _) (Nat.zero_le _) (by simp)) (H.out.keep (w' := w.alloc (.cells #[] 3)) fun p hp => World.cell?_alloc_lt w _ p hp) rfl rfl rfl (by simpa using hn) (by simpa using hbig) (by simp [World.size_alloc]) ?_)
    intro v' w1 hown hgrow hat
    go_wp2
    go_ret
    refine RetOwn.mk (f := fun v => v) (fun _ => rfl) (by simpa using hown) ?_
    exact ((Below.refl _ w).alloc (Nat.le_refl _) _).grown hgrow (by simp) (by intro k hk; simp [Value.ownBlock] at hk; omega)
theorem r_Copy_I (A : Option Addr) (c : Nat) (xs : List _) (w : World) (hn : xs.length ≤ maxLen) (hbig : xs.length * 8 ≤ 140737488355328) (hL : Lies encI 1 w w.heap.size A xs) :
    Calls Tryz.prog 43 #[.slice A xs.length c] w (RetOwn encI 3 1 w xs fun v => v) := by
  have H := Lib.hid hL
  clear hL
  go_enter Tryz.func43, Tryz.ntmps43
  go_wp2_with (at_builtin; refine wpList_app rfl _ _ rfl el_I (Own.nil_ (base := w.heap.size)) H.out rfl rfl rfl (by simpa using hn) (by simpa using hbig) (Nat.le_refl _) ?_)
  intro v' w1 hown hgrow hat
  go_wp2
  go_ret
  exact RetOwn.mk (f := fun v => v) (fun _ => rfl) (by simpa using hown) ((Below.refl _ w).grown hgrow (Nat.le_refl _) (by intro k hk; simp [Value.ownBlock] at hk))
theorem Lies.cellsI {w : World} {B k : Nat} {A : Option Addr} {xs : List Int} (h : Lies encI 1 w B A xs) (hk : k < xs.length) : ∃ b o p, A = some ⟨b, o, none⟩ ∧ b < B ∧ xs[k]? = some p ∧ w.cell? ⟨b, o + k, none⟩ = some (.int .i64 p) := by
  obtain ⟨b, o, p, hA, hb, hp, hc⟩ := h.at_ hk
  exact ⟨b, o, p, hA, hb, hp, by have := hc 0 (by omega); rw [Nat.mul_one] at this; exact this⟩
def idxFrom {α : Type} (p : α → Bool) (l : List α) (k : Nat) : Int := match (l.drop k).findIdx? p with | some i => ((i + k : Nat) : Int) | none => -1
def idxP {α : Type} (p : α → Bool) (l : List α) : Int := idxFrom p l 0
section
variable {α : Type} {p : α → Bool} {l : List α} {k : Nat} {x : α}
theorem idxFrom_end (h : l.length ≤ k) : idxFrom p l k = -1 := by unfold idxFrom; rw [List.drop_eq_nil_of_le h]; rfl
theorem idxFrom_yes (h : l[k]? = some x) (hp : p x = true) : idxFrom p l k = k := by
  obtain ⟨hk, he⟩ := List.getElem?_eq_some_iff.1 h
  unfold idxFrom
  rw [List.drop_eq_getElem_cons hk, he, List.findIdx?_cons, hp]
  simp
theorem idxFrom_no (h : l[k]? = some x) (hp : p x = false) : idxFrom p l k = idxFrom p l (k + 1) := by
  obtain ⟨hk, he⟩ := List.getElem?_eq_some_iff.1 h
  unfold idxFrom
  rw [List.drop_eq_getElem_cons hk, he, List.findIdx?_cons, hp]
  cases (l.drop (k + 1)).findIdx? p with
  | none => rfl
  | some i => simp; omega
end
section
variable {α : Type} {enc : α → List Value} {e : TypeId} {size : Nat} {w w' : World} {base : Nat} {v : Value} {xs ys : List α}
theorem flat_set (hl : ∀ x, (enc x).length = size) {i j : Nat} {x y : α} {u : Value} (hi : xs[i]? = some x) (hj : j < size) (hy : enc y = (enc x).set j u) : (xs.set i y).flatMap enc = (xs.flatMap enc).set (i * size + j) u := by
  induction xs generalizing i with
  | nil => simp at hi
  | cons z zs ih =>
    match i, hi with
    | 0, hi =>
      simp at hi
      subst hi
      rw [List.set_cons_zero, List.flatMap_cons, List.flatMap_cons, hy, Nat.zero_mul, Nat.zero_add, List.set_append_left (h := by rw [hl]; exact hj)]
    | i + 1, hi =>
      simp at hi
      rw [List.set_cons_succ, List.flatMap_cons, List.flatMap_cons, ih hi, List.set_append_right (h := by rw [hl, Nat.succ_mul]; omega), hl, Nat.succ_mul, show i * size + size + j - size = i * size + j by omega]
theorem Own.set_ {g n c : Nat} (h : Own enc e size w base (.slice (some ⟨g, 0, none⟩) n c) xs) (hl : ∀ x, (enc x).length = size) {i j : Nat} {x y : α} {u : Value} (hi : xs[i]? = some x) (hj : j < size) (hy : enc y = (enc x).set j u) :
    Own enc e size (w.setCell ⟨g, i * size + j, none⟩ u) base (.slice (some ⟨g, 0, none⟩) n c) (xs.set i y) := by
  have hlt : i < xs.length := (List.getElem?_eq_some_iff.1 hi).1
  have h1 : (xs.flatMap enc).length = xs.length * size := h.1
  unfold Own World.ownsRow
  rw [List.length_set, flat_set hl hi hj hy, List.length_set]
  refine ⟨h1, ?_⟩
  rcases h.2 with ⟨hv, _⟩ | ⟨g', cap, cur, hv, hb, hg, hnc, hcm, hsz, htk⟩
  · cases hv
  · injection hv with hA hn hc
    injection hA with hA
    injection hA with hg0
    subst hg0 hn hc
    refine .inr ⟨g, c, cur.setIfInBounds (i * size + j) u, rfl, hb, ?_, hnc, hcm, by simpa using hsz, ?_⟩
    · simp [World.setCell, Array.getElem?_modify, hg]
    · rw [Array.toList_setIfInBounds, ← htk, List.take_set]
theorem Own.at_ {A : Option Addr} {n c : Nat} (h : Own enc e size w base (.slice A n c) xs) {i : Nat} {x : α} (hi : xs[i]? = some x) : ∃ g, A = some ⟨g, 0, none⟩ ∧ base ≤ g ∧ g < w.heap.size ∧ (∀ o, w.frozen? ⟨g, o, none⟩ = false) ∧ n = xs.length := by
  have hlt : i < xs.length := (List.getElem?_eq_some_iff.1 hi).1
  rcases h.2 with ⟨_, h0⟩ | ⟨g, cap, cur, hv, hb, hg, hnc, hcm, hsz, htk⟩
  · omega
  · injection hv with hA hn hc
    subst hA
    exact ⟨g, rfl, hb, (Array.getElem?_eq_some_iff.1 hg).1, fun o => by simp [World.frozen?, hg], hn⟩
end
set_option maxHeartbeats 1000000 in
theorem c_IndexFunc_I (g : Nat) (cap : Array Value) (pr : Int → Bool) (eg : ∀ args w, (callFunc g args).run Tryz.prog w = .ok (.enter g args) w) (A : Option Addr) (c : Nat) (xs : List Int) (w : World) (hn : xs.length ≤ maxLen) (hL : Lies encI 1 w w.heap.size A xs)
    (hp : ∀ x W, Below w.heap.size w W → Calls Tryz.prog g (#[.int .i64 x] ++ cap) W (Ret (.bool (pr x)) W)) :
    Calls Tryz.prog 159 #[.slice A xs.length c, .func (.func g) #[] cap] w (Ret (.int .i64 (idxP pr xs)) w) := by
  have hlen : xs.length ≤ 9223372036854775807 := by unfold maxLen at hn; omega
  clear hn
  have HP := Lib.hid hp
  clear hp
  go_enter Tryz.func159, Tryz.ntmps159
  go_wp2
  go_loopw [5, 8] (fun _ v wr => ∃ k : Nat, v = .int .i64 k ∧ k ≤ xs.length ∧ idxP pr xs = idxFrom pr xs k ∧ Below w.heap.size w wr) (fun _ v _ => (xs.length - intOf v).toNat)
  case atStart => exact ⟨0, rfl, by omega, rfl, by (repeat' (first | (with_reducible exact Below.refl _ _) | (with_reducible assumption) | (with_reducible refine Below.alloc ?_ ?_ _) | (with_reducible refine Below.drew ?_) | (with_reducible refine Below.setCell ?_ ?_ _) | (refine Below.trans ?_ (Below.mono (by with_reducible assumption) ?_)) | go_size))⟩
  case round =>
    obtain ⟨k, rfl, hk, he, hbw⟩ := hrel
    have hbz := hbw.size
    have HF := Lib.hid he
    clear he
    rcases Nat.lt_or_ge k xs.length with hlt | hge
    · obtain ⟨bk, o, p, rfl, hbk, hp, q0⟩ := (hL.below hbw).cellsI hlt
      have HX := Lib.hid hp
      clear hp
      have hcall := HP.out p wr hbw
      cases hq : pr p
      · have H := Lib.hid (HF.out.trans (idxFrom_no HX.out hq))
        have HC := Lib.hid hcall
        rw [hq] at HC
        clear hcall hq
        go_wp2_with (go_at_fn g; refine HC.out.mono ?_; intro e w1 hr; obtain ⟨rfl, hb, hc, hf, hz⟩ := hr.use; clear hr)
        go_roundw
        case rel => exact ⟨k + 1, by go_num, by omega, H.out, by (repeat' (first | (with_reducible exact Below.refl _ _) | (with_reducible assumption) | (with_reducible refine Below.alloc ?_ ?_ _) | (with_reducible refine Below.drew ?_) | (with_reducible refine Below.setCell ?_ ?_ _) | (refine Below.trans ?_ (Below.mono (by with_reducible assumption) ?_)) | go_size))⟩
        case measure => simp [intOf]; omega
      · have H := Lib.hid (HF.out.trans (idxFrom_yes HX.out hq))
        have HC := Lib.hid hcall
        rw [hq] at HC
        clear hcall hq
        go_wp2_with (go_at_fn g; refine HC.out.mono ?_; intro e w1 hr; obtain ⟨rfl, hb, hc, hf, hz⟩ := hr.use; clear hr)
        go_returns
        exact Ret.int H.out.symm (by (repeat' (first | (with_reducible exact Below.refl _ _) | (with_reducible assumption) | (with_reducible refine Below.alloc ?_ ?_ _) | (with_reducible refine Below.drew ?_) | (with_reducible refine Below.setCell ?_ ?_ _) | (refine Below.trans ?_ (Below.mono (by with_reducible assumption) ?_)) | go_size)))
    · have H := Lib.hid (HF.out.trans (idxFrom_end hge))
      go_wp2
      go_returns
      exact Ret.int H.out.symm (by (repeat' (first | (with_reducible exact Below.refl _ _) | (with_reducible assumption) | (with_reducible refine Below.alloc ?_ ?_ _) | (with_reducible refine Below.drew ?_) | (with_reducible refine Below.setCell ?_ ?_ _) | (refine Below.trans ?_ (Below.mono (by with_reducible assumption) ?_)) | go_size)))
end Go.Proofs.YtbkjhdohkdeniaaGreatDoor
namespace Go.Proofs.YtbkjhdohkdeniaaGreatDoor
open Go.ChangeShapes Go.WideShapes Go.RowKit Go.Deep
set_option maxRecDepth 100000
theorem cells_string : Tryz.prog.cellsOf 9 = 1 := by kernel_rfl
structure Entry where
  name : ByteArray
  code : Key
  data : Key
theorem Entry.ext_iff' {a b : Entry} : (a.name = b.name ∧ a.code = b.code ∧ a.data = b.data) ↔ a = b := by
  constructor
  · rintro ⟨h0, h1, h2⟩
    cases a; cases b; simp_all
  · rintro rfl; exact ⟨rfl, rfl, rfl⟩
instance : DecidableEq Entry := fun a b => decidable_of_iff (a.name = b.name ∧ a.code = b.code ∧ a.data = b.data) Entry.ext_iff'
structure Entry.Wf (k : Entry) : Prop where
  name : k.name.size ≤ maxLen
  code : k.code.Wf
  data : k.data.Wf
section
variable {H : Type} {enc : TypeId × Value → H} {w : World} {base : Nat} {sp : Nat → Bool} {held : Bool}
end
section
variable {H : Type} {enc : TypeId × Value → H} {w : World} {base : Nat} {sp : Nat → Bool} {held : Bool}
end
end Go.Proofs.YtbkjhdohkdeniaaGreatDoor
