/- The contracts of link.Find and of its reference: each returns a plain function of an image. Conditions: none. -/
import Derived.Test.YthdlfepakkihnaaImage
import Derived.Test.YthdlfepakkihnaaEq
import Derived.Test.YthdlfepakkihnaaBox
namespace Go.Proofs.Ythdlfepakkihnaa
open Go.RowKit
set_option linter.unusedVariables false
set_option linter.unusedSimpArgs false
set_option maxRecDepth 100000

theorem str_beq (a b : ByteArray) : (a.toList == b.toList) = decide (a = b) := by
  rw [ByteArray.toList_eq, ByteArray.toList_eq]
  by_cases h : a = b
  · subst h; simp
  · rw [decide_eq_false h, beq_eq_false_iff_ne]
    exact fun e => h (WideShapes.bytes_inj e)
@[go_sem] theorem Entry.eta (k : Entry) : Entry.mk k.name k.code k.data = k := rfl
theorem Entry_eq {x0 : ByteArray} {x1 : Key} {x2 : Key} {y0 : ByteArray} {y1 : Key} {y2 : Key} : (Entry.mk x0 x1 x2 = Entry.mk y0 y1 y2) ↔ (x0 = y0 ∧ x1 = y1 ∧ x2 = y2) := ⟨fun h => Entry.ext_iff'.2 h, fun h => Entry.ext_iff'.1 h⟩
theorem eqf_Entry (d : Nat) (a0 : ByteArray) (a1 : Int) (a2 : Int) (a3 : Int) (a4 : Int) (a5 : Int) (a6 : Int) (a7 : Int) (a8 : Int) (a9 : Int) (a10 : Int) (b0 : ByteArray) (b1 : Int) (b2 : Int) (b3 : Int) (b4 : Int) (b5 : Int) (b6 : Int) (b7 : Int) (b8 : Int) (b9 : Int) (b10 : Int) (w : World) : (Op.equalIn (d + 4) 58 (.agg #[.string a0, .int .i64 a1, .int .i64 a2, .int .i64 a3, .int .i64 a4, .int .i64 a5, .int .i64 a6, .int .i64 a7, .int .i64 a8, .int .i64 a9, .int .i64 a10]) (.agg #[.string b0, .int .i64 b1, .int .i64 b2, .int .i64 b3, .int .i64 b4, .int .i64 b5, .int .i64 b6, .int .i64 b7, .int .i64 b8, .int .i64 b9, .int .i64 b10])).run Try.prog w = .ok (decide ((Entry.mk a0 (Key.mk a1 a2 a3 a4 a5) (Key.mk a6 a7 a8 a9 a10)) = (Entry.mk b0 (Key.mk b1 b2 b3 b4 b5) (Key.mk b6 b7 b8 b9 b10)))) w := by
  rw [run_equalIn_struct _ _ _ _ _ rfl (by kernel_rfl)]
  simp [go_sem, Entry_eq, key_eq, str_beq]
  repeat' split
  all_goals simp_all
@[go_sem high] theorem eql_Entry (a0 : ByteArray) (a1 : Int) (a2 : Int) (a3 : Int) (a4 : Int) (a5 : Int) (a6 : Int) (a7 : Int) (a8 : Int) (a9 : Int) (a10 : Int) (b0 : ByteArray) (b1 : Int) (b2 : Int) (b3 : Int) (b4 : Int) (b5 : Int) (b6 : Int) (b7 : Int) (b8 : Int) (b9 : Int) (b10 : Int) (w : World) : (binOp .eql 58 (.agg #[.string a0, .int .i64 a1, .int .i64 a2, .int .i64 a3, .int .i64 a4, .int .i64 a5, .int .i64 a6, .int .i64 a7, .int .i64 a8, .int .i64 a9, .int .i64 a10]) (.agg #[.string b0, .int .i64 b1, .int .i64 b2, .int .i64 b3, .int .i64 b4, .int .i64 b5, .int .i64 b6, .int .i64 b7, .int .i64 b8, .int .i64 b9, .int .i64 b10])).run Try.prog w = .ok (.bool (decide ((Entry.mk a0 (Key.mk a1 a2 a3 a4 a5) (Key.mk a6 a7 a8 a9 a10)) = (Entry.mk b0 (Key.mk b1 b2 b3 b4 b5) (Key.mk b6 b7 b8 b9 b10))))) w := by
  rw [run_eql_struct, eqf_Entry 9996]
  rfl
@[go_sem high] theorem neq_Entry (a0 : ByteArray) (a1 : Int) (a2 : Int) (a3 : Int) (a4 : Int) (a5 : Int) (a6 : Int) (a7 : Int) (a8 : Int) (a9 : Int) (a10 : Int) (b0 : ByteArray) (b1 : Int) (b2 : Int) (b3 : Int) (b4 : Int) (b5 : Int) (b6 : Int) (b7 : Int) (b8 : Int) (b9 : Int) (b10 : Int) (w : World) : (binOp .neq 58 (.agg #[.string a0, .int .i64 a1, .int .i64 a2, .int .i64 a3, .int .i64 a4, .int .i64 a5, .int .i64 a6, .int .i64 a7, .int .i64 a8, .int .i64 a9, .int .i64 a10]) (.agg #[.string b0, .int .i64 b1, .int .i64 b2, .int .i64 b3, .int .i64 b4, .int .i64 b5, .int .i64 b6, .int .i64 b7, .int .i64 b8, .int .i64 b9, .int .i64 b10])).run Try.prog w = .ok (.bool (!(decide ((Entry.mk a0 (Key.mk a1 a2 a3 a4 a5) (Key.mk a6 a7 a8 a9 a10)) = (Entry.mk b0 (Key.mk b1 b2 b3 b4 b5) (Key.mk b6 b7 b8 b9 b10)))))) w := by
  rw [run_neq_struct, eqf_Entry 9996]
  rfl
def Entry.zero : Entry := ⟨⟨#[]⟩, Key.zero, Key.zero⟩
def nameP (s : ByteArray) (x : Entry) : Bool := x.name.toList == s.toList
/-- Find: the entry, and whether there is one -/
def findE (es : List Entry) (s : ByteArray) : Entry × Bool := match es[(idxP (nameP s) es).toNat]? with
  | some x => if idxP (nameP s) es < 0 then (Entry.zero, false) else (x, true)
  | none => (Entry.zero, false)
theorem findE_none {es : List Entry} {s : ByteArray} (h : idxP (nameP s) es = -1) : findE es s = (Entry.zero, false) := by
  unfold findE
  rw [h]
  split <;> rfl
theorem findE_some {es : List Entry} {s : ByteArray} {i : Nat} {x : Entry} (h : idxP (nameP s) es = i) (hx : es[i]? = some x) : findE es s = (x, true) := by
  unfold findE
  rw [h, Int.toNat_natCast, hx]
  simp only
  rw [if_neg (by omega)]
section
variable {α : Type} {p : α → Bool} {l : List α}
theorem idxFrom_first {k i : Nat} (h : idxFrom p l k = i) : ∀ j y, k ≤ j → j < i → l[j]? = some y → p y = false := by
  intro j y hkj hji hy
  unfold idxFrom at h
  split at h
  · rename_i m hm
    rw [List.findIdx?_eq_some_iff_getElem] at hm
    obtain ⟨h1, h2, h3⟩ := hm
    obtain rfl : m + k = i := by omega
    have h4 := h3 (j - k) (by omega)
    rw [List.getElem_drop] at h4
    obtain ⟨hj, e⟩ := List.getElem?_eq_some_iff.1 hy
    rw [← e]
    simpa [show k + (j - k) = j by omega] using h4
  · omega
theorem idxFrom_of {k i : Nat} {x : α} (hki : k ≤ i) (hx : l[i]? = some x) (hp : p x = true) (hf : ∀ j y, k ≤ j → j < i → l[j]? = some y → p y = false) : idxFrom p l k = i := by
  induction hn : i - k generalizing k with
  | zero =>
    obtain rfl : k = i := by omega
    exact idxFrom_yes hx hp
  | succ n ih =>
    have hlt : i < l.length := (List.getElem?_eq_some_iff.1 hx).1
    have hk : l[k]? = some l[k] := List.getElem?_eq_getElem (by omega)
    rw [idxFrom_no hk (hf k _ (Nat.le_refl k) (by omega) hk)]
    exact ih (by omega) (fun j y h1 h2 => hf j y (by omega) h2) (by omega)
/-- none of the first m is one -/
def noneTo (p : α → Bool) (l : List α) (m : Nat) : Bool := (l.take m).all fun y => !p y
theorem noneTo_zero : noneTo p l 0 = true := by simp [noneTo]
theorem noneTo_succ {m : Nat} {x : α} (h : l[m]? = some x) : noneTo p l (m + 1) = (noneTo p l m && !p x) := by
  obtain ⟨hm, he⟩ := List.getElem?_eq_some_iff.1 h
  unfold noneTo
  rw [List.take_succ_eq_append_getElem hm, List.all_append, he]
  simp
theorem noneTo_iff {m : Nat} : noneTo p l m = true ↔ ∀ j y, j < m → l[j]? = some y → p y = false := by
  induction m with
  | zero => simp [noneTo]
  | succ m ih =>
    cases h : l[m]? with
    | none =>
      have : l.length ≤ m := by simpa using h
      have e : noneTo p l (m + 1) = noneTo p l m := by unfold noneTo; rw [List.take_of_length_le (by omega), List.take_of_length_le this]
      rw [e, ih]
      constructor
      · intro hh j y hj hy
        have := (List.getElem?_eq_some_iff.1 hy).1
        exact hh j y (by omega) hy
      · intro hh j y hj hy; exact hh j y (by omega) hy
    | some x =>
      rw [noneTo_succ h, Bool.and_eq_true, ih]
      constructor
      · rintro ⟨h1, h2⟩ j y hj hy
        rcases Nat.lt_or_ge j m with hl | hl
        · exact h1 j y hl hy
        · obtain rfl : j = m := by omega
          cases h.symm.trans hy
          simpa using h2
      · intro hh
        exact ⟨fun j y hj hy => hh j y (by omega) hy, by simpa using hh m x (by omega) h⟩
theorem idxP_at {i : Nat} {x : α} (hx : l[i]? = some x) : idxP p l = i ↔ p x = true ∧ noneTo p l i = true := by
  constructor
  · intro h
    obtain ⟨_, y, hy, hp⟩ := idxFrom_lt h
    cases hx.symm.trans hy
    exact ⟨hp, noneTo_iff.2 fun j z hj hz => idxFrom_first h j z (by omega) hj hz⟩
  · rintro ⟨h1, h2⟩
    exact idxFrom_of (by omega) hx h1 fun j y _ hj hy => noneTo_iff.1 h2 j y hj hy
end

def entryZ : Array Value := #[.string ⟨#[]⟩, .int .i64 0, .int .i64 0, .int .i64 0, .int .i64 0, .int .i64 0, .int .i64 0, .int .i64 0, .int .i64 0, .int .i64 0, .int .i64 0]
theorem Ret.entry {p q : Entry × Bool} {w w' : World} (h : q = p) (hb : Below w.heap.size w w') :
    Ret (.tuple #[.agg #[.string p.1.name, .int .i64 p.1.code.perm, .int .i64 p.1.code.base, .int .i64 p.1.code.len, .int .i64 p.1.code.pos, .int .i64 p.1.code.tag, .int .i64 p.1.data.perm, .int .i64 p.1.data.base, .int .i64 p.1.data.len, .int .i64 p.1.data.pos, .int .i64 p.1.data.tag], .bool p.2]) w (.returned (.tuple #[.agg #[.string q.1.name, .int .i64 q.1.code.perm, .int .i64 q.1.code.base, .int .i64 q.1.code.len, .int .i64 q.1.code.pos, .int .i64 q.1.code.tag, .int .i64 q.1.data.perm, .int .i64 q.1.data.base, .int .i64 q.1.data.len, .int .i64 q.1.data.pos, .int .i64 q.1.data.tag], .bool q.2])) w' := by subst h; exact ⟨rfl, hb⟩
theorem info_size {P : Program} {e : TypeId} {z : Value} {n b : Nat} (h : (P.info? e).map (fun i => (i.zero, i.size, i.bytes)) = some (some z, n, b)) : (P.info? e).map (·.size) = some n := by
  cases hi : P.info? e with
  | none => rw [hi] at h; cases h
  | some i => rw [hi] at h; simp at h ⊢; exact h.2.1
theorem size_entry : (Try.prog.info? 58).map (·.size) = some 11 := by kernel_rfl
theorem imgE3 (Mv Pv Ev : Value) (w : World) : KeptB w [(#[Mv, Pv, Ev], 43), (entryZ, 58)] ((w.alloc (.cells #[Mv, Pv, Ev] 43)).alloc (.cells entryZ 58)) :=
  ((KeptB.nil_ (Below.refl _ w)).more (t := 43) (cs := #[Mv, Pv, Ev]) rfl).more (by simp [World.size_alloc])
set_option maxHeartbeats 1000000 in
theorem c_link_Find (E : Option Addr) (e : Nat) (Mv Pv : Value) (es : List Entry) (s : ByteArray) (w : World) (hlen : es.length ≤ maxLen) (hM : Lies encE 11 w w.heap.size E es) :
    Calls Try.prog 34 #[.agg #[Mv, Pv, .slice E es.length e], .string s] w (Ret (.tuple #[.agg #[.string (findE es s).1.name, .int .i64 (findE es s).1.code.perm, .int .i64 (findE es s).1.code.base, .int .i64 (findE es s).1.code.len, .int .i64 (findE es s).1.code.pos, .int .i64 (findE es s).1.code.tag, .int .i64 (findE es s).1.data.perm, .int .i64 (findE es s).1.data.base, .int .i64 (findE es s).1.data.len, .int .i64 (findE es s).1.data.pos, .int .i64 (findE es s).1.data.tag], .bool (findE es s).2]) w) := by
  have hlen' : es.length ≤ 9223372036854775807 := by unfold maxLen at hlen; omega
  clear hlen
  go_enter Try.func34, Try.ntmps34
  go_wp2
  go_loopw [7, 11] (fun _ v wr => ∃ k : Nat, v = .int .i64 k ∧ k ≤ es.length ∧ idxP (nameP s) es = idxFrom (nameP s) es k ∧ KeptB w [(#[Mv, Pv, .slice E es.length e], 43), (entryZ, 58)] wr) (fun _ v _ => (es.length - intOf v).toNat)
  case atStart => exact ⟨0, rfl, by omega, rfl, imgE3 _ _ _ w⟩
  case round =>
    obtain ⟨k, rfl, hk, he, hK⟩ := hrel
    have HK := Lib.hid hK
    have hbw := hK.below
    have HB1 := Lib.hid (hK.box 1 _ rfl)
    have z1 : w.heap.size + 1 < wr.heap.size := HB1.out.lt
    clear hK
    have HF := Lib.hid he
    clear he
    rcases Nat.lt_or_ge k es.length with hlt | hge
    · obtain ⟨b, o, x, rfl, hb, hx, q0, q1, q2, q3, q4, q5, q6, q7, q8, q9, q10⟩ := (hM.below hbw).cellsE hlt
      have HX := Lib.hid hx
      clear hx
      cases h1 : (x.name.toList == s.toList)
      · have H := Lib.hid (HF.out.trans (idxFrom_no (p := nameP s) HX.out h1))
        go_wp2
        go_roundw
        case rel => exact ⟨k + 1, by go_num, by omega, H.out, HK.out.alloc _⟩
        case measure => simp [intOf]; omega
      · have H := Lib.hid (findE_some (HF.out.trans (idxFrom_yes (p := nameP s) HX.out h1)) HX.out)
        go_wp2_with (refine wpList_store_box rfl 58 (.tmp 4) _ rfl (HB1.out.alloc _) rfl rfl size_entry rfl (by simp [Value.oneCell']) ?_; intro w2 hb2 hg2 hz2)
        ((try simp only [Exit.inBlock, Exit.then]); refine bodyPost_ret (results_ct rfl rfl hb2 Try.underlying58 rfl size_entry) rfl ?_)
        refine Ret.entry (q := (x, true)) H.out.symm ((hbw.alloc (by omega) _).grown hg2 (by simp [World.size_alloc]; omega) (fun k hk => by cases hk; omega))
    · have H := Lib.hid (findE_none (HF.out.trans (idxFrom_end hge)))
      go_wp2_with (refine wpList_store_box rfl 58 (.tmp 4) _ rfl HB1.out rfl rfl size_entry rfl (by simp [Value.oneCell']) ?_; intro w2 hb2 hg2 hz2)
      ((try simp only [Exit.inBlock, Exit.then]); refine bodyPost_ret (results_ct rfl rfl hb2 Try.underlying58 rfl size_entry) rfl ?_)
      refine Ret.entry (q := (Entry.zero, false)) H.out.symm (hbw.grown hg2 (by omega) (fun k hk => by cases hk; omega))
theorem idxP_lt {α : Type} {p : α → Bool} {l : List α} (h : idxP p l ≤ (-1 : Int)) : idxP p l = -1 := by
  rcases idxFrom_cases p l 0 with h1 | ⟨i, h1⟩
  · exact h1
  · have : idxP p l = i := h1
    omega
set_option maxHeartbeats 2000000 in
theorem r_Find (E : Option Addr) (e : Nat) (Mv Pv : Value) (es : List Entry) (s : ByteArray) (w : World) (he : es.length ≤ e) (hlen : e ≤ maxLen) (hM : Lies encE 11 w w.heap.size E es) :
    Calls Try.prog 37 #[.agg #[Mv, Pv, .slice E es.length e], .string s] w (Ret (.tuple #[.agg #[.string (findE es s).1.name, .int .i64 (findE es s).1.code.perm, .int .i64 (findE es s).1.code.base, .int .i64 (findE es s).1.code.len, .int .i64 (findE es s).1.code.pos, .int .i64 (findE es s).1.code.tag, .int .i64 (findE es s).1.data.perm, .int .i64 (findE es s).1.data.base, .int .i64 (findE es s).1.data.len, .int .i64 (findE es s).1.data.pos, .int .i64 (findE es s).1.data.tag], .bool (findE es s).2]) w) := by
  have hlen' : e ≤ 9223372036854775807 := by unfold maxLen at hlen; omega
  clear hlen
  go_enter Try.func37, Try.ntmps37
  go_wp2
  go_loopw [6, 7, 9, 23] (fun v _ _ _ wr => ((v = .int .i64 (-1) ∧ idxP (nameP s) es = -1) ∨ ∃ j : Nat, v = .int .i64 j ∧ j < es.length ∧ idxP (nameP s) es ≤ j) ∧ KeptB w [(#[Mv, Pv, .slice E es.length e], 43), (entryZ, 58)] wr) (fun v _ _ _ _ => (intOf v + 1).toNat)
  case atStart =>
    refine ⟨?_, imgE3 _ _ _ w⟩
    rcases Nat.eq_zero_or_pos es.length with h0 | h0
    · left
      have : es = [] := List.eq_nil_of_length_eq_zero h0
      subst this
      exact ⟨rfl, idxFrom_end (by simp)⟩
    · right
      refine ⟨es.length - 1, ?_, by omega, ?_⟩
      · rw [show ((es.length - 1 : Nat) : Int) = (es.length : Int) - 1 by omega]
      · rcases idxFrom_cases (nameP s) es 0 with h1 | ⟨i, h1⟩
        · rw [show idxP (nameP s) es = -1 from h1]; omega
        · have := (idxFrom_lt h1).1
          rw [show idxP (nameP s) es = i from h1]; omega
  case round =>
    obtain ⟨hr, hK⟩ := hrel
    have HK := Lib.hid hK
    have hbw := hK.below
    have HB1 := Lib.hid (hK.box 1 _ rfl)
    have HB0 := Lib.hid (hK.box 0 _ rfl)
    have z1 : w.heap.size + 1 < wr.heap.size := HB1.out.lt
    have c0 := fun o => HB0.out.cell o
    simp only [Nat.add_zero] at c0
    clear hK
    rcases hr with ⟨rfl, hi⟩ | ⟨j, rfl, hj, hi⟩
    · have H := Lib.hid (findE_none hi)
      clear hi
      go_wp2_with (refine wpList_store_box rfl 58 (.tmp 4) _ rfl HB1.out rfl rfl size_entry rfl (by simp [Value.oneCell']) ?_; intro w2 hb2 hg2 hz2)
      ((try simp only [Exit.inBlock, Exit.then]); refine bodyPost_ret (results_ct rfl rfl hb2 Try.underlying58 rfl size_entry) rfl ?_)
      refine Ret.entry (q := (Entry.zero, false)) H.out.symm (hbw.grown hg2 (by omega) (fun k hk => by cases hk; omega))
    · have HI := Lib.hid hi
      clear hi
      obtain ⟨wo, hwo⟩ : ∃ wo : World, wo = wr := ⟨_, rfl⟩
      subst hwo
      go_wp2
      go_loopw [7, 9, 23] (fun v7 _ v wi => ∃ m : Nat, v = .int .i64 m ∧ m ≤ j ∧ v7 = .bool (noneTo (nameP s) es m) ∧ KeptB w [(#[Mv, Pv, .slice E es.length e], 43), (entryZ, 58)] wi) (fun _ _ v _ => (j - intOf v).toNat)
      case atStart => exact ⟨0, rfl, by omega, by rw [noneTo_zero], HK.out⟩
      case round =>
        obtain ⟨m, rfl, hm, rfl, hK⟩ := hrel
        have HKi := Lib.hid hK
        have hbi := hK.below
        have HBi1 := Lib.hid (hK.box 1 _ rfl)
        have HBi0 := Lib.hid (hK.box 0 _ rfl)
        have zi1 : w.heap.size + 1 < wr.heap.size := HBi1.out.lt
        have ci0 := fun o => HBi0.out.cell o
        simp only [Nat.add_zero] at ci0
        clear hK c0 z1
        rcases Nat.lt_or_ge m j with hmj | hge
        · obtain ⟨b, o, x, rfl, hb, hx, q0, q1, q2, q3, q4, q5, q6, q7, q8, q9, q10⟩ := (hM.below hbi).cellsE (k := m) (by omega)
          have HX := Lib.hid hx
          clear hx
          cases hn : noneTo (nameP s) es m
          · have H := Lib.hid (show noneTo (nameP s) es (m + 1) = false by rw [noneTo_succ HX.out, hn]; rfl)
            go_wp2
            go_roundw
            case rel => exact ⟨m + 1, by go_num, by omega, by rw [H.out], HKi.out.alloc _⟩
            case measure => simp [intOf]; omega
          · cases h1 : (x.name.toList == s.toList)
            · have H := Lib.hid (show noneTo (nameP s) es (m + 1) = true by rw [noneTo_succ HX.out, hn]; simp [nameP, h1])
              go_wp2
              go_roundw
              case rel => exact ⟨m + 1, by go_num, by omega, by rw [H.out], HKi.out.alloc _⟩
              case measure => simp [intOf]; omega
            · have H := Lib.hid (show noneTo (nameP s) es (m + 1) = false by rw [noneTo_succ HX.out, hn]; simp [nameP, h1])
              go_wp2
              go_roundw
              case rel => exact ⟨m + 1, by go_num, by omega, by rw [H.out], HKi.out.alloc _⟩
              case measure => simp [intOf]; omega
        · obtain rfl : m = j := by omega
          obtain ⟨b, o, x, rfl, hb, hx, q0, q1, q2, q3, q4, q5, q6, q7, q8, q9, q10⟩ := (hM.below hbi).cellsE (k := m) (by omega)
          have HX := Lib.hid hx
          clear hx
          have hmi : (m : Int) < es.length := by omega
          have hnext : ¬(nameP s x = true ∧ noneTo (nameP s) es m = true) → (Value.int .i64 ((m : Int) - 1) = .int .i64 (-1) ∧ idxP (nameP s) es = -1) ∨ ∃ j : Nat, Value.int .i64 ((m : Int) - 1) = .int .i64 j ∧ j < es.length ∧ idxP (nameP s) es ≤ j := fun hne => by
            have hne' : ¬ idxP (nameP s) es = m := fun h => hne ((idxP_at HX.out).1 h)
            have h0 := HI.out
            rcases m with _ | m
            · exact .inl ⟨rfl, idxP_lt (by omega)⟩
            · exact .inr ⟨m, by rw [show ((m + 1 : Nat) : Int) - 1 = m by omega], by omega, by omega⟩
          have HN := Lib.hid hnext
          clear hnext
          cases h1 : (x.name.toList == s.toList)
          · have H := Lib.hid (HN.out (fun h => by rw [show nameP s x = false from h1] at h; cases h.1))
            go_wp2
            go_roundw
            case rel => exact ⟨H.out, HKi.out⟩
            case measure => simp [intOf] <;> omega
          · cases hn : noneTo (nameP s) es m
            · have H := Lib.hid (HN.out (fun h => by rw [hn] at h; cases h.2))
              go_wp2
              go_roundw
              case rel => exact ⟨H.out, HKi.out⟩
              case measure => simp [intOf] <;> omega
            · have H := Lib.hid (findE_some ((idxP_at HX.out).2 ⟨h1, hn⟩) HX.out)
              go_wp2_with (refine wpList_store_box rfl 58 (.tmp 4) _ rfl HBi1.out rfl rfl size_entry rfl (by simp [Value.oneCell']) ?_; intro w2 hb2 hg2 hz2)
              ((try simp only [Exit.inBlock, Exit.then]); refine bodyPost_ret (results_ct rfl rfl hb2 Try.underlying58 rfl size_entry) rfl ?_)
              refine Ret.entry (q := (x, true)) H.out.symm (hbi.grown hg2 (by omega) (fun k hk => by cases hk; omega))
end Go.Proofs.Ythdlfepakkihnaa
