/- slices.SortedFunc over the keys of a set; reach.Keys whole. Conditions: none. -/
import Derived.Test.YthdlfepakkihnaaReachO
import Derived.ChangeSame
namespace Go.Proofs.Ythdlfepakkihnaa
open Go Go.RowKit Go.Shelf Go.Sort Go.Lib
set_option linter.unusedVariables false
set_option linter.unusedSimpArgs false
set_option maxRecDepth 100000
instance : Inhabited Key := ⟨⟨0, 0, 0, 0, 0⟩⟩
theorem flatK_eq (l : List Key) : flatK encK 5 l.toArray = (l.flatMap encK).toArray := by
  apply Array.ext
  · rw [size_flatK, List.size_toArray, List.size_toArray, flat_len (enc := encK) (size := 5) (fun _ => rfl)]
  · intro i h1 h2
    rw [size_flatK, List.size_toArray] at h1
    have hd : i / 5 < l.length := by omega
    have hg := get_flatK encK 5 l.toArray i (by rw [List.size_toArray]; exact h1)
    have e1 : (flatK encK 5 l.toArray)[i]! = (flatK encK 5 l.toArray)[i] := getElem!_pos _ _ _
    rw [← e1, hg]
    obtain ⟨x, hx⟩ : ∃ x, l[i / 5]? = some x := ⟨_, List.getElem?_eq_getElem hd⟩
    have hf := flat_at (enc := encK) (size := 5) (fun _ => rfl) hx (j := i % 5) (Nat.mod_lt _ (by decide))
    rw [Nat.div_add_mod' i 5] at hf
    have hx2 : l.toArray[i / 5]! = x := by
      rw [getElem!_pos _ _ (by rw [List.size_toArray]; exact hd)]
      have := List.getElem?_eq_getElem hd
      rw [hx] at this
      exact (Option.some.inj this).symm
    rw [hx2]
    have h5 : i % 5 < (encK x).length := Nat.mod_lt _ (by decide)
    rw [getElem!_pos (encK x) (i % 5) h5]
    rw [List.size_toArray] at h2
    rw [List.getElem?_eq_getElem h2, List.getElem?_eq_getElem h5] at hf
    rw [List.getElem_toArray]
    exact (Option.some.inj hf).symm
theorem heap_sortV {w : World} {g n : Nat} {os : Array Obj} {cur : Array Value} {e : TypeId} {fr : Nat × Nat} (d : Array Value) (hb : w.heap[g]? = some (.cells cur e fr)) :
    (grow (putRow id (Sort.ahead w n) g 0 d) os).heap[g]? = some (.cells (putCells id 0 d cur) e fr) := by
  have hg : g < w.heap.size := (Array.getElem?_eq_some_iff.1 hb).1
  rw [heap_grow_old _ _ (by simpa using hg)]
  simp [putRow, mapBlock, Sort.ahead, Array.getElem?_modify, hb, onCells]
theorem grownBy_sortV {w : World} {g n : Nat} {os : Array Obj} (d : Array Value) : w.grownBy (grow (putRow id (Sort.ahead w n) g 0 d) os) (some g) := by
  refine ⟨rfl, rfl, rfl, by simp, fun k hk hne => ?_⟩
  rw [heap_grow_old _ _ (by simpa using hk)]
  have : g ≠ k := fun e => hne (by rw [e])
  simp [putRow, mapBlock, Sort.ahead, Array.getElem?_modify, this]
theorem take_putCellsV (cur : Array Value) (ts : List Value) (h : ts.length ≤ cur.size) : (putCells id 0 ts.toArray cur).toList.take ts.length = ts := by
  apply List.ext_getElem?
  intro j
  by_cases hj : j < ts.length
  · rw [List.getElem?_take_of_lt hj, Array.getElem?_toList]
    simp [putCells, hj, show j < cur.size by omega]
  · rw [List.getElem?_take_eq_none (by omega), List.getElem?_eq_none (by omega)]
/-- the row behind the sort -/
theorem InvT.sorted {T : Nat → Prop} {w0 w : World} {rs : List Res} (h : InvT T w0 rs w) {i g n cap m : Nat} {e : TypeId} {L L' : List Key} (os : Array Obj) (hi : rs[i]? = some (.row e 5 (.slice (some ⟨g, 0, none⟩) n cap) n (L.flatMap encK))) (hl : L'.length = L.length) (hn : L.length = n) :
    InvT T w0 (rs.set i (.row e 5 (.slice (some ⟨g, 0, none⟩) n cap) n (L'.flatMap encK))) (sortWorldK encK 5 w g 0 m L'.toArray os) := by
  unfold sortWorldK putRowK
  rw [flatK_eq]
  have hr := h.ok i _ hi
  have f1 : (L.flatMap encK).length = L.length * 5 := flat_len (fun _ => rfl)
  have f2 : (L'.flatMap encK).length = L'.length * 5 := flat_len (fun _ => rfl)
  refine h.turn hi (grownBy_sortV _) (fun k hk => .inl hk) ?_ (fun k hk => .inl hk)
  rcases hr.2 with ⟨h0, hn0⟩ | ⟨g', cap', cur, hv, hg, hb, h1, h2, h3, h4⟩
  · cases h0
  · cases hv
    refine ⟨by rw [f2, hl, hn], .inr ⟨g, cap, _, rfl, hg, heap_sortV _ hb, h1, h2, by simp [putCells, h3], ?_⟩⟩
    have := take_putCellsV cur (L'.flatMap encK) (by rw [f2, h3, hl, hn]; exact Nat.mul_le_mul_right 5 h1)
    rw [f2, hl, hn] at this
    exact this
theorem holdsK_of {w : World} {g cap n : Nat} {e : TypeId} {L : List Key} (hr : (Res.row e 5 (.slice (some ⟨g, 0, none⟩) n cap) n (L.flatMap encK)).ok w) (hn : L.length = n) : HoldsK encK 5 w g 0 L.toArray := by
  have f1 : (L.flatMap encK).length = L.length * 5 := flat_len (fun _ => rfl)
  unfold HoldsK
  rw [flatK_eq]
  rcases hr.2 with ⟨h0, hn0⟩ | ⟨g', cap', cur, hv, hg, hb, h1, h2, h3, h4⟩
  · cases h0
  · cases hv
    intro j hj
    have hj' : j < (L.flatMap encK).length := by simpa using hj
    refine ⟨?_, by simp [World.frozen?, hb]⟩
    have h5 : (cur.toList.take (n * 5))[j]? = (L.flatMap encK)[j]? := by rw [h4]
    rw [List.getElem?_take_of_lt (by rw [f1, hn] at hj'; exact hj')] at h5
    simp only [World.cell?, hb, Nat.zero_add]
    simp only [Option.isSome_none, Bool.false_eq_true, if_false]
    rw [← Array.getElem?_toList, h5, List.getElem?_eq_getElem hj']
    simp [hj']
    rw [List.getElem?_eq_getElem hj']; rfl
theorem perm_array {L : List Key} {d' : Array Key} (h : PermIn 0 L.toArray.size L.toArray d') : d'.toList.Perm L := by
  have h2 := h.2.2
  have hs : d'.size = L.length := by have := h.1; simpa using this
  rw [List.size_toArray] at h2
  have e1 : (d'.extract 0 L.length).toList = d'.toList := by
    rw [← hs]; simp
  have e2 : (L.toArray.extract 0 L.length).toList = L := by simp
  rwa [e1, e2] at h2
theorem sorted_array {d' : Array Key} {n : Nat} (hn : d'.size = n) (h : SortedIn (ltOf cmpK) 0 n d') : SortedK d'.toList := by
  refine List.pairwise_iff_getElem.2 fun i j hi hj hij => ?_
  have hi' : i < d'.size := by simpa using hi
  have hj' : j < d'.size := by simpa using hj
  have := h i j (Nat.zero_le _) hij (by omega)
  rw [ltK, getElem!_pos d' i hi', getElem!_pos d' j hj'] at this
  simpa using this
/-- what SortFunc makes of a row of keys -/
theorem c_SortFunc {T : Nat → Prop} {w0 w : World} {rs : List Res} (hI : InvT T w0 rs w) {i g n cap : Nat} {L : List Key} (hi : rs[i]? = some (.row 23 5 (.slice (some ⟨g, 0, none⟩) n cap) n (L.flatMap encK))) (hn : L.length = n) (h5 : n ≤ 500) :
    Calls Try.prog 80 #[.slice (some ⟨g, 0, none⟩) n cap, .func (.func 55) #[] #[]] w (fun e w' => e = .returned (.tuple #[]) ∧ ∃ L', L'.Perm L ∧ SortedK L' ∧ InvT T w0 (rs.set i (.row 23 5 (.slice (some ⟨g, 0, none⟩) n cap) n (L'.flatMap encK))) w') := by
  have eg : ∀ args w, (callFunc 55 args).run Try.prog w = .ok (.enter 55 args) w := enters_of Try.func55 (by kernel_rfl) rfl
  have hg : g < w.heap.size := hI.lt hi rfl
  have hH := holdsK_of (hI.ok i _ hi) hn
  have hs : L.toArray.size = n := by rw [List.size_toArray, hn]
  have hc := AnyQ.slices_SortFunc Try.sortKey 5 Try.isAgg23 Try.sizeOf23 encK (fun _ => rfl) (fun x v hv => by simp [encK] at hv; rcases hv with rfl | rfl | rfl | rfl | rfl <;> rfl) cmpK swoK 55 #[] g 0 cap L.toArray w eg (fun _ _ _ _ x y => c_keyCmp x y _) hH hg (by rw [hs]; omega)
  rw [hs] at hc
  refine Calls.mono (show Calls Try.prog 80 _ w _ from hc) ?_
  rintro e w' ⟨rfl, d', m, os, hp, hso, rfl⟩
  have hp2 := perm_array (L := L) (by rw [hs]; exact hp)
  have hd : d'.size = n := by have := hp.1; simpa [hn] using this
  refine ⟨rfl, d'.toList, hp2, sorted_array hd hso, ?_⟩
  have := hI.sorted (m := m) (L' := d'.toList) os hi hp2.length_eq hn
  rwa [Array.toArray_toList] at this
theorem c_Collect (T : Nat → Prop) (gb g : Nat) (S : List Key) (hS : S.Nodup) (hS5 : S.length ≤ 500) (w : World) (hI : InvT T w [.box gb 117 #[.map (some g)], .obj g (setKO S)] w) :
    Calls Try.prog 79 #[.func (.func 81) #[] #[.pointer (some ⟨gb, 0, none⟩)]] w (RetColl T w S) := by
  have HC := Lib.hid (c_AppendSeq T gb g S hS hS5 w hI)
  clear hI
  go_enter Try.func79, Try.ntmps79
  go_wp2_with (first | (go_at_call 94; refine HC.out.mono ?_; rintro e w' ⟨v, L, o1, o2, o3, rfl, h1, h2, h3⟩) | fail)
  go_returns
  exact ⟨v, L, o1, o2, o3, rfl, h1, h2, h3⟩
end Go.Proofs.Ythdlfepakkihnaa
