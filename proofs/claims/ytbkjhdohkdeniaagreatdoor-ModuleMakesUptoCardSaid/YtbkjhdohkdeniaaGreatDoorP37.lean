/- What the parts say: Modules as plain data; what Check says of one. Conditions: none. -/
import Derived.Test.YtbkjhdohkdeniaaGreatDoorP16
import Derived.Test.YtbkjhdohkdeniaaGreatDoorP03
import Derived.Test.YtbkjhdohkdeniaaGreatDoorP11
import Derived.Test.YtbkjhdohkdeniaaGreatDoorP36
set_option linter.unusedVariables false
set_option linter.unusedSimpArgs false
namespace Go.Proofs.YtbkjhdohkdeniaaGreatDoor
open Go.ChangeShapes Go.WideShapes Go.RowKit Go.Deep
set_option maxRecDepth 100000
structure Label where
  name : ByteArray
  pos : Int
theorem Label.ext_iff' {a b : Label} : (a.name = b.name ∧ a.pos = b.pos) ↔ a = b := by
  constructor
  · rintro ⟨h0, h1⟩
    cases a; cases b; simp_all
  · rintro rfl; exact ⟨rfl, rfl⟩
instance : DecidableEq Label := fun a b => decidable_of_iff (a.name = b.name ∧ a.pos = b.pos) Label.ext_iff'
structure Label.Wf (k : Label) : Prop where
  name : k.name.size ≤ maxLen
  pos : i64 k.pos
def encL (x : Label) : List Value := [.string x.name, .int .i64 x.pos]
section
variable {H : Type} {enc : TypeId × Value → H} {w : World} {base : Nat} {sp : Nat → Bool} {held : Bool}
end
structure Import where
  name : ByteArray
  slot : Int
theorem Import.ext_iff' {a b : Import} : (a.name = b.name ∧ a.slot = b.slot) ↔ a = b := by
  constructor
  · rintro ⟨h0, h1⟩
    cases a; cases b; simp_all
  · rintro rfl; exact ⟨rfl, rfl⟩
instance : DecidableEq Import := fun a b => decidable_of_iff (a.name = b.name ∧ a.slot = b.slot) Import.ext_iff'
structure Import.Wf (k : Import) : Prop where
  name : k.name.size ≤ maxLen
  slot : i64 k.slot
def encM (x : Import) : List Value := [.string x.name, .int .i64 x.slot]
theorem cells_Import : Tryz.prog.cellsOf 114 = 2 := by kernel_rfl
section
variable {H : Type} {enc : TypeId × Value → H} {w : World} {base : Nat} {sp : Nat → Bool} {held : Bool}
theorem trod_Import {fuel : Nat} {cs : List Value} {x : DataW H × List MemPlace} (h : DataW.trod enc Tryz.prog w base sp held fuel 114 cs = some x) : ∃ k : Import, k.Wf ∧ cs = encM k := by
  obtain ⟨xs, n, rfl, rfl, hl, hx, hf⟩ := DataW.trod_struct Tryz.underlying114 h
  have hl' : cs.length = 2 := hl.trans cells_Import
  have hx' : xs.length = 2 := hx
  match cs, hl' with
  | [c0, c1], _ =>
    obtain ⟨y0, e0⟩ := some_at hx' (i := 0) (by omega)
    have g0 : DataW.trod enc Tryz.prog w base sp held n 9 [c0] = some y0 := field_at hf (i := 0) rfl rfl rfl cells_string e0
    obtain ⟨n0, z0, _, w0⟩ := DataW.trod_string Tryz.underlying9 g0
    obtain ⟨y1, e1⟩ := some_at hx' (i := 1) (by omega)
    have g1 : DataW.trod enc Tryz.prog w base sp held n 3 [c1] = some y1 := field_at hf (i := 1) rfl rfl rfl cells_int e1
    obtain ⟨n1, z1, _, w1⟩ := DataW.trod_int Tryz.underlying3 g1
    refine ⟨⟨n0, n1⟩, ⟨w0, i64_of_wf w1⟩, ?_⟩
    simp only [List.cons.injEq, and_true] at z0 z1
    simp only [encM, List.cons.injEq, and_true]
    simp only [z0, z1, and_self]
end
theorem el_M : ElT Tryz.prog encM 49 114 2 24 where
  under := Tryz.underlying49
  info := by
    obtain ⟨i0, hi, hz0, hz1, hz2⟩ := info_parts (show (Tryz.prog.info? 114).map (fun i => (i.zero, i.size, i.bytes)) = some (some (.agg #[.string ByteArray.empty, .int .i64 0]), 2, 24) by kernel_rfl)
    exact ⟨i0, _, hi, hz0, hz1, hz2, rfl⟩
  pos := by decide
  len := fun _ => rfl
  one := fun x u hu => by
    simp only [encM, List.mem_cons, List.not_mem_nil, or_false] at hu
    rcases hu with rfl | rfl <;> rfl
theorem Lies.cellsL {w : World} {B k : Nat} {A : Option Addr} {xs : List Label} (h : Lies encL 2 w B A xs) (hk : k < xs.length) : ∃ b o p, A = some ⟨b, o, none⟩ ∧ b < B ∧ xs[k]? = some p ∧ w.cell? ⟨b, o + k * 2, none⟩ = some (.string p.name) ∧ w.cell? ⟨b, o + k * 2 + 1, none⟩ = some (.int .i64 p.pos) := by
  obtain ⟨b, o, p, hA, hb, hp, hc⟩ := h.at_ hk
  exact ⟨b, o, p, hA, hb, hp, hc 0 (by omega), hc 1 (by omega)⟩
theorem Lies.cellsM {w : World} {B k : Nat} {A : Option Addr} {xs : List Import} (h : Lies encM 2 w B A xs) (hk : k < xs.length) : ∃ b o p, A = some ⟨b, o, none⟩ ∧ b < B ∧ xs[k]? = some p ∧ w.cell? ⟨b, o + k * 2, none⟩ = some (.string p.name) ∧ w.cell? ⟨b, o + k * 2 + 1, none⟩ = some (.int .i64 p.slot) := by
  obtain ⟨b, o, p, hA, hb, hp, hc⟩ := h.at_ hk
  exact ⟨b, o, p, hA, hb, hp, hc 0 (by omega), hc 1 (by omega)⟩
def encS (s : ByteArray) : List Value := [.string s]
theorem el_S : ElT Tryz.prog encS 57 9 1 16 where
  under := Tryz.underlying57
  info := by
    obtain ⟨i0, hi, hz0, hz1, hz2⟩ := info_parts (show (Tryz.prog.info? 9).map (fun i => (i.zero, i.size, i.bytes)) = some (some (.string ByteArray.empty), 1, 16) by kernel_rfl)
    exact ⟨i0, _, hi, hz0, hz1, hz2, rfl⟩
  pos := by decide
  len := fun _ => rfl
  one := fun x u hu => by
    simp only [encS, List.mem_cons, List.not_mem_nil, or_false] at hu
    rcases hu with rfl <;> rfl
theorem Lies.cellsS {w : World} {B k : Nat} {A : Option Addr} {xs : List ByteArray} (h : Lies encS 1 w B A xs) (hk : k < xs.length) : ∃ b o p, A = some ⟨b, o, none⟩ ∧ b < B ∧ xs[k]? = some p ∧ w.cell? ⟨b, o + k, none⟩ = some (.string p) := by
  obtain ⟨b, o, p, hA, hb, hp, hc⟩ := h.at_ hk
  exact ⟨b, o, p, hA, hb, hp, by have := hc 0 (by omega); rw [Nat.mul_one] at this; exact this⟩
def firstI {α : Type} (f : Nat → α → Int) : List α → Nat → Int
  | [], _ => 0
  | x :: l, k => if (f k x != 0) = true then f k x else firstI f l (k + 1)
def fromI {α : Type} (f : Nat → α → Int) (l : List α) (k : Nat) : Int := firstI f (l.drop k) k
section
variable {α : Type} {f : Nat → α → Int} {l : List α} {k : Nat} {x : α}
theorem fromI_end (h : l.length ≤ k) : fromI f l k = 0 := by unfold fromI; rw [List.drop_eq_nil_of_le h]; rfl
theorem fromI_no (h : l[k]? = some x) (hf : (f k x != 0) = true) : fromI f l k = f k x := by
  obtain ⟨hk, he⟩ := List.getElem?_eq_some_iff.1 h
  unfold fromI
  rw [List.drop_eq_getElem_cons hk, he, firstI, if_pos hf]
theorem fromI_ok (h : l[k]? = some x) (hf : (f k x != 0) = false) : fromI f l k = fromI f l (k + 1) := by
  obtain ⟨hk, he⟩ := List.getElem?_eq_some_iff.1 h
  unfold fromI
  rw [List.drop_eq_getElem_cons hk, he, firstI, if_neg (by simp [hf])]
end
structure Mod where
  code : List Int
  data : List Int
  exports : List Label
  imports : List Import
structure Mod.Wf (m : Mod) : Prop where
  code : ∀ (i : Nat) n, m.code[i]? = some n → i64 n
  data : ∀ (i : Nat) n, m.data[i]? = some n → i64 n
  exports : ∀ (i : Nat) x, m.exports[i]? = some x → Label.Wf x
  imports : ∀ (i : Nat) x, m.imports[i]? = some x → Import.Wf x
def expE (m : Mod) (k : Nat) (x : Label) : Int :=
  if nameB x.name.data.toList = true then (if ((m.exports.take k).any fun y => decide (y.name = x.name)) = true then 8 else if inR x.pos 0 (m.code.length - 1) = true then 0 else 13) else 3
def nearB (x y : Int) : Bool := decide (-2 < x - y) && decide (x - y < 2)
def impE (m : Mod) (k : Nat) (x : Import) : Int :=
  if nameB x.name.data.toList = true then (if inR x.slot 0 (m.data.length - 2) = true then (if ((m.imports.take k).any fun y => nearB x.slot y.slot) = true then 8 else 0) else 13) else 3
def largeB (m : Mod) : Bool := decide (120 < m.code.length) || decide (60 < m.data.length) || decide (20 < m.exports.length) || decide (20 < m.imports.length)
def numsB (l : List Int) : Bool := l.all fun n => n == wr n
def modE (m : Mod) : Int := if largeB m = true then 2 else if (numsB m.code && numsB m.data) = true then seqE (fromI (expE m) m.exports 0) (fromI (impE m) m.imports 0) else 1
structure ModV (w : World) (B : Nat) (mv : Value) (m : Mod) : Prop where
  ex : ∃ (A D E I : Option Addr) (a d e i : Nat), mv = .agg #[.slice A m.code.length a, .slice D m.data.length d, .slice E m.exports.length e, .slice I m.imports.length i] ∧ m.code.length ≤ a ∧ a ≤ maxLen ∧ m.data.length ≤ d ∧ d ≤ maxLen ∧ m.exports.length ≤ e ∧ e ≤ maxLen ∧ m.imports.length ≤ i ∧ i ≤ maxLen ∧
    Lies encI 1 w B A m.code ∧ Lies encI 1 w B D m.data ∧ Lies encL 2 w B E m.exports ∧ Lies encM 2 w B I m.imports
theorem ModV.below {w w' : World} {B : Nat} {mv : Value} {m : Mod} (h : ModV w B mv m) (hb : Below B w w') : ModV w' B mv m := by
  obtain ⟨A, D, E, I, a, d, e, i, h0, h1, h2, h3, h4, h5, h6, h7, h8, l1, l2, l3, l4⟩ := h.ex
  exact ⟨A, D, E, I, a, d, e, i, h0, h1, h2, h3, h4, h5, h6, h7, h8, l1.below hb, l2.below hb, l3.below hb, l4.below hb⟩
theorem ModV.more {w : World} {B B' : Nat} {mv : Value} {m : Mod} (h : ModV w B mv m) (hB : B ≤ B') : ModV w B' mv m := by
  obtain ⟨A, D, E, I, a, d, e, i, h0, h1, h2, h3, h4, h5, h6, h7, h8, l1, l2, l3, l4⟩ := h.ex
  exact ⟨A, D, E, I, a, d, e, i, h0, h1, h2, h3, h4, h5, h6, h7, h8, l1.more hB, l2.more hB, l3.more hB, l4.more hB⟩
section
variable {H : Type} {enc : TypeId × Value → H} {w : World} {base : Nat} {sp : Nat → Bool} {held : Bool}
end
end Go.Proofs.YtbkjhdohkdeniaaGreatDoor
