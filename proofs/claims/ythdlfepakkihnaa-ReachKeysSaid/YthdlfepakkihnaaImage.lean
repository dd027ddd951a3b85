/- Images: entries and places, read as plain data. Conditions: none. -/
import Derived.Test.YthdlfepakkihnaaOwn
namespace Go.Proofs.Ythdlfepakkihnaa
open Go.ChangeShapes Go.WideShapes Go.RowKit Go.Deep
set_option linter.unusedVariables false
set_option linter.unusedSimpArgs false
set_option maxRecDepth 100000
theorem cells_string : Try.prog.cellsOf 9 = 1 := by kernel_rfl
structure Entry where
  name : ByteArray
  code : Key
  data : Key
theorem Entry.ext_iff' {a b : Entry} : (a.name = b.name ∧ a.code = b.code ∧ a.data = b.data) ↔ a = b := by
  constructor
  · rintro ⟨h0, h1, h2⟩
    cases a; cases b; simp_all
  · rintro rfl; exact ⟨rfl, rfl, rfl⟩
instance : DecidableEq Entry := fun a b => decidable_of_iff (a.name = b.name ∧ a.code = b.code ∧ a.data = b.data) Entry.ext_iff'
structure Entry.Wf (k : Entry) : Prop where
  name : k.name.size ≤ maxLen
  code : k.code.Wf
  data : k.data.Wf
def encE (x : Entry) : List Value := [.string x.name, .int .i64 x.code.perm, .int .i64 x.code.base, .int .i64 x.code.len, .int .i64 x.code.pos, .int .i64 x.code.tag, .int .i64 x.data.perm, .int .i64 x.data.base, .int .i64 x.data.len, .int .i64 x.data.pos, .int .i64 x.data.tag]
theorem cells_Entry : Try.prog.cellsOf 58 = 11 := by kernel_rfl
section
variable {H : Type} {enc : TypeId × Value → H} {w : World} {base : Nat} {sp : Nat → Bool} {held : Bool}
theorem trod_Entry {fuel : Nat} {cs : List Value} {x : DataW H × List MemPlace} (h : DataW.trod enc Try.prog w base sp held fuel 58 cs = some x) : ∃ k : Entry, k.Wf ∧ cs = encE k := by
  obtain ⟨xs, n, rfl, rfl, hl, hx, hf⟩ := DataW.trod_struct Try.underlying58 h
  have hl' : cs.length = 11 := hl.trans cells_Entry
  have hx' : xs.length = 3 := hx
  match cs, hl' with
  | [c0, c1, c2, c3, c4, c5, c6, c7, c8, c9, c10], _ =>
    obtain ⟨y0, e0⟩ := some_at hx' (i := 0) (by omega)
    have g0 : DataW.trod enc Try.prog w base sp held n 9 [c0] = some y0 := field_at hf (i := 0) rfl rfl rfl cells_string e0
    obtain ⟨n0, z0, _, w0⟩ := DataW.trod_string Try.underlying9 g0
    obtain ⟨y1, e1⟩ := some_at hx' (i := 1) (by omega)
    have g1 : DataW.trod enc Try.prog w base sp held n 23 [c1, c2, c3, c4, c5] = some y1 := field_at hf (i := 1) rfl rfl rfl cells_key e1
    obtain ⟨n1, w1, z1⟩ := trod_key g1
    obtain ⟨y2, e2⟩ := some_at hx' (i := 2) (by omega)
    have g2 : DataW.trod enc Try.prog w base sp held n 23 [c6, c7, c8, c9, c10] = some y2 := field_at hf (i := 2) rfl rfl rfl cells_key e2
    obtain ⟨n2, w2, z2⟩ := trod_key g2
    refine ⟨⟨n0, n1, n2⟩, ⟨w0, w1, w2⟩, ?_⟩
    simp only [List.cons.injEq, and_true] at z0 z1 z2
    simp only [encE, List.cons.injEq, and_true]
    simp only [z0, z1, z2, and_self]
end
theorem el_E : ElT Try.prog encE 41 58 11 96 where
  under := Try.underlying41
  info := by
    obtain ⟨i0, hi, hz0, hz1, hz2⟩ := info_parts (show (Try.prog.info? 58).map (fun i => (i.zero, i.size, i.bytes)) = some (some (.agg #[.string ByteArray.empty, .int .i64 0, .int .i64 0, .int .i64 0, .int .i64 0, .int .i64 0, .int .i64 0, .int .i64 0, .int .i64 0, .int .i64 0, .int .i64 0]), 11, 96) by kernel_rfl)
    exact ⟨i0, _, hi, hz0, hz1, hz2, rfl⟩
  pos := by decide
  len := fun _ => rfl
  one := fun x u hu => by
    simp only [encE, List.mem_cons, List.not_mem_nil, or_false] at hu
    rcases hu with rfl | rfl | rfl | rfl | rfl | rfl | rfl | rfl | rfl | rfl | rfl <;> rfl
theorem Lies.cellsE {w : World} {B k : Nat} {A : Option Addr} {xs : List Entry} (h : Lies encE 11 w B A xs) (hk : k < xs.length) : ∃ b o p, A = some ⟨b, o, none⟩ ∧ b < B ∧ xs[k]? = some p ∧ w.cell? ⟨b, o + k * 11, none⟩ = some (.string p.name) ∧ w.cell? ⟨b, o + k * 11 + 1, none⟩ = some (.int .i64 p.code.perm) ∧ w.cell? ⟨b, o + k * 11 + 2, none⟩ = some (.int .i64 p.code.base) ∧ w.cell? ⟨b, o + k * 11 + 3, none⟩ = some (.int .i64 p.code.len) ∧ w.cell? ⟨b, o + k * 11 + 4, none⟩ = some (.int .i64 p.code.pos) ∧ w.cell? ⟨b, o + k * 11 + 5, none⟩ = some (.int .i64 p.code.tag) ∧ w.cell? ⟨b, o + k * 11 + 6, none⟩ = some (.int .i64 p.data.perm) ∧ w.cell? ⟨b, o + k * 11 + 7, none⟩ = some (.int .i64 p.data.base) ∧ w.cell? ⟨b, o + k * 11 + 8, none⟩ = some (.int .i64 p.data.len) ∧ w.cell? ⟨b, o + k * 11 + 9, none⟩ = some (.int .i64 p.data.pos) ∧ w.cell? ⟨b, o + k * 11 + 10, none⟩ = some (.int .i64 p.data.tag) := by
  obtain ⟨b, o, p, hA, hb, hp, hc⟩ := h.at_ hk
  exact ⟨b, o, p, hA, hb, hp, hc 0 (by omega), hc 1 (by omega), hc 2 (by omega), hc 3 (by omega), hc 4 (by omega), hc 5 (by omega), hc 6 (by omega), hc 7 (by omega), hc 8 (by omega), hc 9 (by omega), hc 10 (by omega)⟩
section
variable {H : Type} {enc : TypeId × Value → H} {w : World} {base : Nat} {sp : Nat → Bool} {held : Bool}
theorem cells_vals : Try.prog.cellsOf 27 = 1 := by kernel_rfl
theorem cells_places : Try.prog.cellsOf 40 = 1 := by kernel_rfl
theorem cells_entries : Try.prog.cellsOf 41 = 1 := by kernel_rfl
/-- what can be read as an image: its memory, its places, its entries -/
theorem open_image {r : Reach} {b0 : Nat} {v : Value} {d : DataW H} {ps : List MemPlace} (hval : Value.okWide Try.prog w r b0 43 v) (h : DataW.Trod enc Try.prog w base sp held 43 v d ps) :
    ∃ (A : Option Addr) (c : Nat) (xs : List Val) (P : Value) (E : Option Addr) (e : Nat) (es : List Entry), v = .agg #[.slice A xs.length c, P, .slice E es.length e] ∧ (∃ Ap np cp, P = .slice Ap np cp) ∧
      xs.length ≤ c ∧ c ≤ maxLen ∧ (∀ (i : Nat) k, xs[i]? = some k → Val.Wf k) ∧ Lies encV 7 w w.heap.size A xs ∧ es.length ≤ e ∧ e ≤ maxLen ∧ (∀ (i : Nat) k, es[i]? = some k → Entry.Wf k) ∧ Lies encE 11 w w.heap.size E es := by
  obtain ⟨cs, rfl, hsz⟩ := okWide_struct Try.underlying43 hval
  obtain ⟨fuel, hf0⟩ := h
  obtain ⟨l⟩ := cs
  obtain ⟨ys, n, rfl, _, hl, hx, hf⟩ := DataW.trod_struct Try.underlying43 hf0
  have hl' : l.length = 3 := hl.trans (by kernel_rfl)
  have hx' : ys.length = 3 := hx
  match l, hl' with
  | [c0, c1, c2], _ =>
    obtain ⟨y0, e0⟩ := some_at hx' (i := 0) (by omega)
    obtain ⟨y1, e1⟩ := some_at hx' (i := 1) (by omega)
    obtain ⟨y2, e2⟩ := some_at hx' (i := 2) (by omega)
    have g0 : DataW.trod enc Try.prog w base sp held n 27 [c0] = some y0 := field_at hf (i := 0) rfl rfl rfl cells_vals e0
    have g1 : DataW.trod enc Try.prog w base sp held n 40 [c1] = some y1 := field_at hf (i := 1) rfl rfl rfl cells_places e1
    have g2 : DataW.trod enc Try.prog w base sp held n 41 [c2] = some y2 := field_at hf (i := 2) rfl rfl rfl cells_entries e2
    obtain ⟨A, c, xs, h0, h1, h2, h3, h4⟩ := rows_of_cs (enc := encV) (Wf := Val.Wf) (size := 7) Try.underlying27 cells_val (by decide) trod_val (fun _ => rfl) g0
    obtain ⟨E, e, es, k0, k1, k2, k3, k4⟩ := rows_of_cs (enc := encE) (Wf := Entry.Wf) (size := 11) Try.underlying41 cells_Entry (by decide) trod_Entry (fun _ => rfl) g2
    have hP : ∃ Ap np cp, c1 = Value.slice Ap np cp := by
      rcases open_slice Try.underlying40 g1 with ⟨hc, _⟩ | ⟨a, len, cap, m, n, D, Pl, hc, _⟩
      · simp only [List.cons.injEq, and_true] at hc; exact ⟨_, _, _, hc⟩
      · simp only [List.cons.injEq, and_true] at hc; exact ⟨_, _, _, hc⟩
    simp only [List.cons.injEq, and_true] at h0 k0
    subst h0 k0
    exact ⟨A, c, xs, c1, E, e, es, rfl, hP, h1, h2, h3, h4, k1, k2, k3, k4⟩
end
end Go.Proofs.Ythdlfepakkihnaa
