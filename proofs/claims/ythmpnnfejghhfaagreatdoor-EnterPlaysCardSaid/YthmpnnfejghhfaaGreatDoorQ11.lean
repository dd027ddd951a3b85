/- The words that all contracts of this seat share: what a call that only makes new memory leaves behind, and small lemmas. Conditions: none. Regions that draw their order, in a class of worlds: the caller's own blocks are as they were, and what was there before the call. Conditions: none. Slices of structs: what lies where, kept over calls, and the readings of the arguments. Conditions: none. Slices of the call's own, read as lists of plain data: made, appended to, kept over calls, written in place. Conditions: none. Images: entries and places, read as plain data. Conditions: none. Blocks that are known whole: a struct in a variable of the call's own, loaded and stored as one. Conditions: none. A machine in memory: its registers, its key and its slices written in place. Conditions: none. A value of one cell stored into a block known whole. Conditions: none. A whole machine loaded and stored. Conditions: none. What a call owns while it runs, as one list: blocks known whole, rows that are slices of its own; how each operation turns the list. Conditions: none. A range over a function whose iterator turns blocks that lay ahead of the loop: the law over resources. Conditions: none. Many steps of a machine as plain data. Conditions: none. The iterator over a machine's steps: what it promises. Conditions: the machine is one that may be; Go's tables hold what they were laid with. The program's Run and Places. Conditions: Go's tables hold what they were laid with. The program's Run. Conditions: Go's tables hold what they were laid with. The program's Places. Conditions: Go's tables hold what they were laid with. -/
import Derived.Test.YthmpnnfejghhfaaGreatDoorP01
import Derived.Test.YthmpnnfejghhfaaGreatDoorProg
import Derived.WalkKit
import Derived.Outline
import Derived.WalkLawsBesides
import Derived.WalkSpells
import Derived.Deep.QuietTactic
import Derived.BigQuiet
import Derived.Lib.Hide
import Derived.Deep.RegionHeld3
import Derived.Deep.LoopGhost
import Derived.Deep.DeepFit
import Derived.Handy
import Derived.Deep.Quiet
import Derived.Test.YthmpnnfejghhfaaGreatDoorP02
import Derived.Test.YthmpnnfejghhfaaGreatDoorP03
import Derived.Maps.AppendAt
import Derived.Laws.MakeOwn
import Derived.OwnWalk
import Derived.Deep.Draws
import Derived.Lib.SliceRun
import Derived.Shelf.Abstract
import Derived.Test.YthmpnnfejghhfaaGreatDoorP09
import Derived.Test.YthmpnnfejghhfaaGreatDoorP08
import Derived.Laws.Tables
import Derived.Laws.AppendOwn
import Derived.Test.YthmpnnfejghhfaaGreatDoorP12
import Derived.Test.YthmpnnfejghhfaaGreatDoorP15
import Derived.Test.YthmpnnfejghhfaaGreatDoorP10
import Derived.Test.YthmpnnfejghhfaaGreatDoorP13
import Derived.Great.BuildSlice
import Derived.RangeFuncFrom
import Derived.RangeFuncLeaves
import Derived.RangeFuncCalls
import Derived.Test.YthmpnnfejghhfaaGreatDoorP43
import Derived.RangeFuncNested
import Derived.RangeFuncBound
import Derived.Shelf.RegionOpen
import Derived.OwnWalkIn
import Derived.TacticsInMore
import Derived.LoopNIn
import Derived.LoopIn
namespace Go.Proofs.YthmpnnfejghhfaaGreatDoor
open Go.RowKit

section
variable {α : Type}
end
theorem nn : (∀ (α : Type) (x : α) (l m : List α), (x :: l) ++ m = x :: (l ++ m)) ∧ (∀ (α : Type) (l : List α), [] ++ l = l) ∧ (∀ (α : Type) (x y : α) (l : List α), (x :: l).set 0 y = y :: l) ∧ (∀ (α : Type) (x y : α) (l : List α) (i : Nat), (x :: l).set (i + 1) y = x :: l.set i y) ∧
    (∀ (α : Type) (l : List α) (i : Nat) (x : α), l.toArray.setIfInBounds i x = (l.set i x).toArray) ∧ (∀ (α : Type) (xs : Array α) (i : Nat) (d : α), xs.getD i d = xs[i]?.getD d) ∧ (∀ (α : Type) (l : List α) (i : Nat), l.toArray[i]? = l[i]?) ∧
    (∀ (α : Type) (x : α) (l : List α), (x :: l)[0]? = some x) ∧ (∀ (α : Type) (x : α) (l : List α) (i : Nat), (x :: l)[i + 1]? = l[i]?) ∧ (∀ (α : Type) (x d : α), (some x).getD d = x) :=
  ⟨fun _ _ _ _ => rfl, fun _ _ => rfl, fun _ _ _ _ => rfl, fun _ _ _ _ _ => rfl, fun _ _ _ _ => List.setIfInBounds_toArray .., fun _ _ _ _ => Array.getD_eq_getD_getElem? .., fun _ _ _ => List.getElem?_toArray .., fun _ _ _ => rfl, fun _ _ _ _ => rfl, fun _ _ _ => rfl⟩
end Go.Proofs.YthmpnnfejghhfaaGreatDoor
namespace Go.Proofs.YthmpnnfejghhfaaGreatDoor
open Go.RowKit
set_option linter.unusedVariables false
set_option linter.unusedSimpArgs false
set_option maxRecDepth 100000

/-! A region that draws its order, in a class of worlds: the caller's own blocks are as they were, and what was there before the call. -/
section
variable {P : Program} {ops : Array Oper} {C : World → Prop} {a : Act} {o : Oper} {K : Act → Prop}
end

theorem Kept.mk0 {w W : World} (hb : Below w.heap.size w W) : Kept w [] W :=
  ⟨hb, hb.size, fun i cs h => by simp at h, fun i cs h => by simp at h⟩
end Go.Proofs.YthmpnnfejghhfaaGreatDoor
namespace Go.Proofs.YthmpnnfejghhfaaGreatDoor
open Go.ChangeShapes Go.WideShapes Go.RowKit Go.Deep
set_option linter.unusedVariables false
set_option linter.unusedSimpArgs false
set_option maxRecDepth 100000

section
variable {α : Type} {enc : α → List Value} {size : Nat} {w w' : World} {B : Nat} {A : Option Addr} {xs : List α}
end
section
variable {H : Type} {encH : TypeId × Value → H} {w : World} {base : Nat} {sp : Nat → Bool} {held : Bool}
theorem open_rows {α : Type} {enc : α → List Value} {Wf : α → Prop} {size : Nat} {r : Reach} {b0 : Nat} {t e : TypeId} {v : Value} {d : DataW H} {ps : List MemPlace} (ht : Tryz.prog.underlying t = some (.slice e)) (hsz : Tryz.prog.cellsOf e = size) (hpos : 0 < size)
    (hel : ∀ {fuel : Nat} {cs : List Value} {y : DataW H × List MemPlace}, DataW.trod encH Tryz.prog w base sp held fuel e cs = some y → ∃ k : α, Wf k ∧ cs = enc k) (hlen : ∀ k, (enc k).length = size)
    (hval : Value.okWide Tryz.prog w r b0 t v) (h : DataW.Trod encH Tryz.prog w base sp held t v d ps) : ∃ (A : Option Addr) (c : Nat) (xs : List α), v = .slice A xs.length c ∧ xs.length ≤ c ∧ c ≤ maxLen ∧ (∀ (i : Nat) k, xs[i]? = some k → Wf k) ∧ Lies enc size w w.heap.size A xs := by
  obtain ⟨fuel, hf⟩ := h
  obtain ⟨A, c, xs, hcs, h1, h2, h3, h4⟩ := rows_of_cs ht hsz hpos hel hlen hf
  refine ⟨A, c, xs, ?_, h1, h2, h3, h4⟩
  obtain ⟨a, len, cap, rfl⟩ := okWide_slice ht hval
  simpa [Value.cells] using hcs
end
instance : DecidableEq Piece := fun a b => decidable_of_iff (a.base = b.base ∧ a.len = b.len ∧ a.state = b.state) Piece.ext_iff'
end Go.Proofs.YthmpnnfejghhfaaGreatDoor
namespace Go.Proofs.YthmpnnfejghhfaaGreatDoor
open Go.RowKit
set_option linter.unusedVariables false
set_option linter.unusedSimpArgs false
set_option maxRecDepth 100000

section
variable {α : Type} {enc : α → List Value} {e : TypeId} {size : Nat} {w w' : World} {base : Nat} {v : Value} {xs ys : List α}
end

section
variable {P : Program} {α : Type} {enc : α → List Value} {t e : TypeId} {size bytes : Nat}
end
def idxFrom {α : Type} (p : α → Bool) (l : List α) (k : Nat) : Int := match (l.drop k).findIdx? p with | some i => ((i + k : Nat) : Int) | none => -1
def idxP {α : Type} (p : α → Bool) (l : List α) : Int := idxFrom p l 0
section
variable {α : Type} {p : α → Bool} {l : List α} {k : Nat} {x : α}
theorem idxFrom_end (h : l.length ≤ k) : idxFrom p l k = -1 := by unfold idxFrom; rw [List.drop_eq_nil_of_le h]; rfl
theorem idxFrom_yes (h : l[k]? = some x) (hp : p x = true) : idxFrom p l k = k := by
  obtain ⟨hk, he⟩ := List.getElem?_eq_some_iff.1 h
  unfold idxFrom
  rw [List.drop_eq_getElem_cons hk, he, List.findIdx?_cons, hp]
  simp
theorem idxFrom_no (h : l[k]? = some x) (hp : p x = false) : idxFrom p l k = idxFrom p l (k + 1) := by
  obtain ⟨hk, he⟩ := List.getElem?_eq_some_iff.1 h
  unfold idxFrom
  rw [List.drop_eq_getElem_cons hk, he, List.findIdx?_cons, hp]
  cases (l.drop (k + 1)).findIdx? p with
  | none => rfl
  | some i => simp; omega
end
section
variable {α : Type} {enc : α → List Value} {e : TypeId} {size : Nat} {w w' : World} {base : Nat} {v : Value} {xs ys : List α}
end
theorem idxFrom_lt {α : Type} {p : α → Bool} {l : List α} {k i : Nat} (h : idxFrom p l k = i) : i < l.length ∧ ∃ x, l[i]? = some x ∧ p x = true := by
  unfold idxFrom at h
  split at h
  · rename_i j hj
    rw [List.findIdx?_eq_some_iff_getElem] at hj
    obtain ⟨h1, h2, _⟩ := hj
    obtain rfl : j + k = i := by omega
    simp at h1
    refine ⟨by omega, l[j + k], List.getElem?_eq_getElem _, ?_⟩
    rw [List.getElem_drop] at h2
    rw [← h2]
    congr 2
    omega
  · omega
theorem idxFrom_cases {α : Type} (p : α → Bool) (l : List α) (k : Nat) : idxFrom p l k = -1 ∨ ∃ i : Nat, idxFrom p l k = i := by
  unfold idxFrom
  split
  · rename_i j hj
    exact .inr ⟨j + k, rfl⟩
  · exact .inl rfl

end Go.Proofs.YthmpnnfejghhfaaGreatDoor
namespace Go.Proofs.YthmpnnfejghhfaaGreatDoor
open Go.ChangeShapes Go.WideShapes Go.RowKit Go.Deep
set_option linter.unusedVariables false
set_option linter.unusedSimpArgs false
set_option maxRecDepth 100000
theorem cells_string : Tryz.prog.cellsOf 9 = 1 := by kernel_rfl
instance : DecidableEq Entry := fun a b => decidable_of_iff (a.name = b.name ∧ a.code = b.code ∧ a.data = b.data) Entry.ext_iff'
def encE (x : Entry) : List Value := [.string x.name, .int .i64 x.code.perm, .int .i64 x.code.base, .int .i64 x.code.len, .int .i64 x.code.pos, .int .i64 x.code.tag, .int .i64 x.data.perm, .int .i64 x.data.base, .int .i64 x.data.len, .int .i64 x.data.pos, .int .i64 x.data.tag]
theorem cells_Entry : Tryz.prog.cellsOf 119 = 11 := by kernel_rfl
section
variable {H : Type} {enc : TypeId × Value → H} {w : World} {base : Nat} {sp : Nat → Bool} {held : Bool}
theorem trod_Entry {fuel : Nat} {cs : List Value} {x : DataW H × List MemPlace} (h : DataW.trod enc Tryz.prog w base sp held fuel 119 cs = some x) : ∃ k : Entry, k.Wf ∧ cs = encE k := by
  obtain ⟨xs, n, rfl, rfl, hl, hx, hf⟩ := DataW.trod_struct Tryz.underlying119 h
  have hl' : cs.length = 11 := hl.trans cells_Entry
  have hx' : xs.length = 3 := hx
  match cs, hl' with
  | [c0, c1, c2, c3, c4, c5, c6, c7, c8, c9, c10], _ =>
    obtain ⟨y0, e0⟩ := some_at hx' (i := 0) (by omega)
    have g0 : DataW.trod enc Tryz.prog w base sp held n 9 [c0] = some y0 := field_at hf (i := 0) rfl rfl rfl cells_string e0
    obtain ⟨n0, z0, _, w0⟩ := DataW.trod_string Tryz.underlying9 g0
    obtain ⟨y1, e1⟩ := some_at hx' (i := 1) (by omega)
    have g1 : DataW.trod enc Tryz.prog w base sp held n 23 [c1, c2, c3, c4, c5] = some y1 := field_at hf (i := 1) rfl rfl rfl cells_key e1
    obtain ⟨n1, w1, z1⟩ := trod_key g1
    obtain ⟨y2, e2⟩ := some_at hx' (i := 2) (by omega)
    have g2 : DataW.trod enc Tryz.prog w base sp held n 23 [c6, c7, c8, c9, c10] = some y2 := field_at hf (i := 2) rfl rfl rfl cells_key e2
    obtain ⟨n2, w2, z2⟩ := trod_key g2
    refine ⟨⟨n0, n1, n2⟩, ⟨w0, w1, w2⟩, ?_⟩
    simp only [List.cons.injEq, and_true] at z0 z1 z2
    simp only [encE, List.cons.injEq, and_true]
    simp only [z0, z1, z2, and_self]
end
theorem Lies.cellsE {w : World} {B k : Nat} {A : Option Addr} {xs : List Entry} (h : Lies encE 11 w B A xs) (hk : k < xs.length) : ∃ b o p, A = some ⟨b, o, none⟩ ∧ b < B ∧ xs[k]? = some p ∧ w.cell? ⟨b, o + k * 11, none⟩ = some (.string p.name) ∧ w.cell? ⟨b, o + k * 11 + 1, none⟩ = some (.int .i64 p.code.perm) ∧ w.cell? ⟨b, o + k * 11 + 2, none⟩ = some (.int .i64 p.code.base) ∧ w.cell? ⟨b, o + k * 11 + 3, none⟩ = some (.int .i64 p.code.len) ∧ w.cell? ⟨b, o + k * 11 + 4, none⟩ = some (.int .i64 p.code.pos) ∧ w.cell? ⟨b, o + k * 11 + 5, none⟩ = some (.int .i64 p.code.tag) ∧ w.cell? ⟨b, o + k * 11 + 6, none⟩ = some (.int .i64 p.data.perm) ∧ w.cell? ⟨b, o + k * 11 + 7, none⟩ = some (.int .i64 p.data.base) ∧ w.cell? ⟨b, o + k * 11 + 8, none⟩ = some (.int .i64 p.data.len) ∧ w.cell? ⟨b, o + k * 11 + 9, none⟩ = some (.int .i64 p.data.pos) ∧ w.cell? ⟨b, o + k * 11 + 10, none⟩ = some (.int .i64 p.data.tag) := by
  obtain ⟨b, o, p, hA, hb, hp, hc⟩ := h.at_ hk
  exact ⟨b, o, p, hA, hb, hp, hc 0 (by omega), hc 1 (by omega), hc 2 (by omega), hc 3 (by omega), hc 4 (by omega), hc 5 (by omega), hc 6 (by omega), hc 7 (by omega), hc 8 (by omega), hc 9 (by omega), hc 10 (by omega)⟩
section
variable {H : Type} {enc : TypeId × Value → H} {w : World} {base : Nat} {sp : Nat → Bool} {held : Bool}
theorem cells_places : Tryz.prog.cellsOf 46 = 1 := by kernel_rfl
theorem cells_entries : Tryz.prog.cellsOf 47 = 1 := by kernel_rfl
theorem open_image {r : Reach} {b0 : Nat} {v : Value} {d : DataW H} {ps : List MemPlace} (hval : Value.okWide Tryz.prog w r b0 49 v) (h : DataW.Trod enc Tryz.prog w base sp held 49 v d ps) :
    ∃ (A : Option Addr) (c : Nat) (xs : List Val) (P : Value) (E : Option Addr) (e : Nat) (es : List Entry), v = .agg #[.slice A xs.length c, P, .slice E es.length e] ∧ (∃ Ap np cp, P = .slice Ap np cp) ∧
      xs.length ≤ c ∧ c ≤ maxLen ∧ (∀ (i : Nat) k, xs[i]? = some k → Val.Wf k) ∧ Lies encV 7 w w.heap.size A xs ∧ es.length ≤ e ∧ e ≤ maxLen ∧ (∀ (i : Nat) k, es[i]? = some k → Entry.Wf k) ∧ Lies encE 11 w w.heap.size E es := by
  obtain ⟨cs, rfl, hsz⟩ := okWide_struct Tryz.underlying49 hval
  obtain ⟨fuel, hf0⟩ := h
  obtain ⟨l⟩ := cs
  obtain ⟨ys, n, rfl, _, hl, hx, hf⟩ := DataW.trod_struct Tryz.underlying49 hf0
  have hl' : l.length = 3 := hl.trans (by kernel_rfl)
  have hx' : ys.length = 3 := hx
  match l, hl' with
  | [c0, c1, c2], _ =>
    obtain ⟨y0, e0⟩ := some_at hx' (i := 0) (by omega)
    obtain ⟨y1, e1⟩ := some_at hx' (i := 1) (by omega)
    obtain ⟨y2, e2⟩ := some_at hx' (i := 2) (by omega)
    have g0 : DataW.trod enc Tryz.prog w base sp held n 27 [c0] = some y0 := field_at hf (i := 0) rfl rfl rfl cells_vals e0
    have g1 : DataW.trod enc Tryz.prog w base sp held n 46 [c1] = some y1 := field_at hf (i := 1) rfl rfl rfl cells_places e1
    have g2 : DataW.trod enc Tryz.prog w base sp held n 47 [c2] = some y2 := field_at hf (i := 2) rfl rfl rfl cells_entries e2
    obtain ⟨A, c, xs, h0, h1, h2, h3, h4⟩ := rows_of_cs (enc := encV) (Wf := Val.Wf) (size := 7) Tryz.underlying27 cells_val (by decide) trod_val (fun _ => rfl) g0
    obtain ⟨E, e, es, k0, k1, k2, k3, k4⟩ := rows_of_cs (enc := encE) (Wf := Entry.Wf) (size := 11) Tryz.underlying47 cells_Entry (by decide) trod_Entry (fun _ => rfl) g2
    have hP : ∃ Ap np cp, c1 = Value.slice Ap np cp := by
      rcases open_slice Tryz.underlying46 g1 with ⟨hc, _⟩ | ⟨a, len, cap, m, n, D, Pl, hc, _⟩
      · simp only [List.cons.injEq, and_true] at hc; exact ⟨_, _, _, hc⟩
      · simp only [List.cons.injEq, and_true] at hc; exact ⟨_, _, _, hc⟩
    simp only [List.cons.injEq, and_true] at h0 k0
    subst h0 k0
    exact ⟨A, c, xs, c1, E, e, es, rfl, hP, h1, h2, h3, h4, k1, k2, k3, k4⟩
end
end Go.Proofs.YthmpnnfejghhfaaGreatDoor
namespace Go.Proofs.YthmpnnfejghhfaaGreatDoor
open Go.RowKit
set_option linter.unusedVariables false
set_option linter.unusedSimpArgs false
set_option maxRecDepth 100000

section
variable {w w' : World} {g : Nat} {t : TypeId} {cs : Array Value}
end
section
variable {P : Program}
section
variable {fn : Func} {tmps : Array Value} {w : World} {g : Nat} {t ty : TypeId} {cs : Array Value} {d : TypeDesc} {p q r : Tmp}
theorem results_ctt (h : fn.results = #[.cell p ty, .tmp q, .tmp r]) (hp : tmps.getD p undef = .pointer (some ⟨g, 0, none⟩)) (hg : Box w g t cs) (hu : P.underlying ty = some d) (hd : (match d with | .struct _ | .array _ _ => true | _ => false) = true) (hi : (P.info? ty).map (·.size) = some cs.size) :
    (results fn tmps).run P w = .ok (.tuple #[.agg cs, tmps.getD q undef, tmps.getD r undef]) w := by
  have hp' : tmps[p]?.getD undef = .pointer (some ⟨g, 0, none⟩) := by simpa using hp
  simp [results, h, hp', asAddr, run_loadVar_row w g t ty cs (0, 0) d hg hu hd hi]
end
end
section
variable {w W W' : World} {bs : List (Array Value × TypeId)}
end
end Go.Proofs.YthmpnnfejghhfaaGreatDoor
namespace Go.Proofs.YthmpnnfejghhfaaGreatDoor
open Go.RowKit
set_option linter.unusedVariables false
set_option linter.unusedSimpArgs false
set_option maxRecDepth 100000

section
variable {w w' : World} {g : Nat} {t : TypeId} {cs : Array Value}
end
section
variable {P : Program}
theorem wpList_store_part {ops : Array Oper} {rest : List Oper} {o : Oper} {a : Act} {w : World} {Q : Exit → Act → World → Prop} (hgd : o.guard = none) (ty : TypeId) (x y : Operand) (ho : o.op = .store ty x y)
    {g off : Nat} {t : TypeId} {old cells : Array Value} (hg : Box w g t old) (hx : a.eval x = .pointer (some ⟨g, off, none⟩)) (hy : a.eval y = .agg cells) {new : List Value} (hnew : setMany old.toList off cells.toList = new) (hlt : off + cells.size ≤ old.size) (hi : (P.info? ty).map (·.size) = some cells.size)
    (h1 : cells.all (·.oneCell') = true)
    (h : ∀ w', Box w' g t new.toArray → w.grownBy w' (some g) → w'.heap.size = w.heap.size → wpList P ops Q rest (a.put o.dst undef) w') : wpList P ops Q (o :: rest) a w := by
  subst hnew
  refine wpList_store_mid hgd ty x y ho g off cells hx hy (fun j hj => ?_) hi h1 ?_
  · rw [hg.cell, hg.frozen, Array.getElem?_eq_getElem (by omega)]
    exact ⟨rfl, rfl⟩
  · obtain ⟨h2, h3⟩ := grown_setCells (g := g) cells.toList off w
    exact h _ (hg.setCells _ _ _ _) h2 h3
theorem step_store_part {ops : Array Oper} {o : Oper} {a : Act} {w : World} {K : Act → World → Prop} {Q : Exit → Act → World → Prop} {G : Prop} (hgd : o.guard = none) (ty : TypeId) (x y : Operand) (ho : o.op = .store ty x y)
    {g off : Nat} {t : TypeId} {old cells : Array Value} (hg : Box w g t old) (hx : a.eval x = .pointer (some ⟨g, off, none⟩)) (hy : a.eval y = .agg cells) {new : List Value} (hnew : setMany old.toList off cells.toList = new) (hlt : off + cells.size ≤ old.size) (hi : (P.info? ty).map (·.size) = some cells.size)
    (h1 : cells.all (·.oneCell') = true)
    (h : ∀ w', Box w' g t new.toArray → w.grownBy w' (some g) → w'.heap.size = w.heap.size → K (a.put o.dst undef) w') :
    if Region.wanted o (yielded ops a.tmps) = true then Oper.wp P o a w K Q else G := by
  have hw : Region.wanted o (yielded ops a.tmps) = true := by simp [Region.wanted, hgd]
  subst hnew
  rw [if_pos hw]
  refine wp_store_mid ty x y ho g off cells hx hy (fun j hj => ?_) hi h1 ?_
  · rw [hg.cell, hg.frozen, Array.getElem?_eq_getElem (by omega)]
    exact ⟨rfl, rfl⟩
  · obtain ⟨h2, h3⟩ := grown_setCells (g := g) cells.toList off w
    exact h _ (hg.setCells _ _ _ _) h2 h3
end
section
variable {regs : List Val} {k k' : Key} {a b c : Value}
theorem machL_setReg (hl : regs.length = 8) {i j : Nat} {x y : Val} {u : Value} (hi : regs[i]? = some x) (hj : j < 7) (hy : encV y = (encV x).set j u) : (machL regs k a b c).set (i * 7 + j) u = machL (regs.set i y) k a b c := by
  have h := flat_set (enc := encV) (size := 7) (fun _ => rfl) hi hj hy
  have h8 := flat8 hl
  have := (List.getElem?_eq_some_iff.1 hi).1
  unfold machL
  rw [h, List.set_append_left (h := by omega)]
theorem machL_tag (hl : regs.length = 8) (n : Int) : (machL regs k a b c).set 60 (.int .i64 n) = machL regs { k with tag := n } a b c := machL_set hl 4 _
end
theorem KeptB.grown' {w W W' : World} {bs : List (Array Value × TypeId)} {row : Option Nat} (h : KeptB w bs W) (hg : W.grownBy W' row) (hr : ∀ k, row = some k → w.heap.size + bs.length ≤ k) : KeptB w bs W' :=
  ⟨h.below.grown hg (Nat.le_trans (Nat.le_add_right _ _) h.size) (fun k hk => Nat.le_trans (Nat.le_add_right _ _) (hr k hk)), Nat.le_trans h.size hg.size, fun i c hi => (h.box i c hi).grown hg (fun he => by
    have h1 := hr _ he.symm
    have h2 := (List.getElem?_eq_some_iff.1 hi).1
    omega)⟩
theorem Box.setReg {w : World} {g : Nat} {t : TypeId} {regs : List Val} {k : Key} {a b c : Value} (h : Box w g t (machL regs k a b c).toArray) (hl : regs.length = 8) {i j : Nat} {x y : Val} {u : Value} (hi : regs[i]? = some x) (hj : j < 7) (hy : encV y = (encV x).set j u) :
    Box (w.setCell ⟨g, i * 7 + j, none⟩ u) g t (machL (regs.set i y) k a b c).toArray := by
  have := h.set_ (i * 7 + j) u
  rwa [List.setIfInBounds_toArray, machL_setReg hl hi hj hy] at this
end Go.Proofs.YthmpnnfejghhfaaGreatDoor
namespace Go.Proofs.YthmpnnfejghhfaaGreatDoor
open Go.RowKit
set_option linter.unusedVariables false
set_option linter.unusedSimpArgs false
set_option maxRecDepth 100000

section
variable {P : Program}
theorem wpList_store_val {ops : Array Oper} {rest : List Oper} {o : Oper} {a : Act} {w : World} {Q : Exit → Act → World → Prop} (hgd : o.guard = none) (ty : TypeId) (x y : Operand) (ho : o.op = .store ty x y)
    {g p : Nat} {t : TypeId} {old : Array Value} {v : Value} (hg : Box w g t old) (hx : a.eval x = .pointer (some ⟨g, p, none⟩)) (hy : a.eval y = v) (h1 : v.oneCell' = true) {new : List Value} (hnew : old.toList.set p v = new) (hp : p < old.size) (hi : (P.info? ty).map (·.size) = some 1)
    (h : ∀ w', Box w' g t new.toArray → w.grownBy w' (some g) → w'.heap.size = w.heap.size → wpList P ops Q rest (a.put o.dst undef) w') : wpList P ops Q (o :: rest) a w :=
  wpList_plain hgd fun _ hK => wp_store_val ty x y ho hg hx hy h1 hnew hp hi fun w' b1 b2 b3 => hK _ _ (h w' b1 b2 b3)
end
end Go.Proofs.YthmpnnfejghhfaaGreatDoor
namespace Go.Proofs.YthmpnnfejghhfaaGreatDoor
open Go.RowKit
set_option linter.unusedVariables false
set_option linter.unusedSimpArgs false
set_option maxRecDepth 100000
theorem run_load_box {P : Program} {o : Oper} {a : Act} {w : World} (ty : TypeId) (x : Operand) (ho : o.op = .load ty x) {g : Nat} {t : TypeId} {cs : Array Value} (hx : a.eval x = .pointer (some ⟨g, 0, none⟩)) (hg : Box w g t cs) {d : TypeDesc} (hu : P.underlying ty = some d)
    (hd : (match d with | .struct _ | .array _ _ => true | _ => false) = true) (hi : (P.info? ty).map (·.size) = some cs.size) : (execOp a.eval o).run P w = .ok (.value (.agg cs)) w := by
  unfold execOp
  simp only [ho, hx, Instr.loadAt, Instr.sureAddr, Sem.run_bind, Sem.run_pure, Result.andThen_ok, run_loadVar_row w g t ty cs (0, 0) d hg hu hd hi]
section
variable {regs : List Val} {k : Key} {a b c : Value}
theorem wpList_store_mach {ops : Array Oper} {rest : List Oper} {o : Oper} {act : Act} {w : World} {Q : Exit → Act → World → Prop} (hgd : o.guard = none) (x y : Operand) (ho : o.op = .store 31 x y)
    {g : Nat} {t : TypeId} {old : Array Value} (hg : Box w g t old) (hx : act.eval x = .pointer (some ⟨g, 0, none⟩)) (hy : act.eval y = .agg (machL regs k a b c).toArray) (hl : regs.length = 8) (h64 : old.size = 64)
    (ha : a.oneCell' = true) (hb : b.oneCell' = true) (hc : c.oneCell' = true)
    (h : ∀ w', Box w' g t (machL regs k a b c).toArray → w.grownBy w' (some g) → w'.heap.size = w.heap.size → wpList Tryz.prog ops Q rest (act.put o.dst undef) w') : wpList Tryz.prog ops Q (o :: rest) act w :=
  wpList_store_box hgd 31 x y ho hg hx hy (info_mach hl) (by rw [h64, List.size_toArray, machL_length hl]) (machL_one hl ha hb hc) h
theorem wpList_load_mach {ops : Array Oper} {rest : List Oper} {o : Oper} {act : Act} {w : World} {Q : Exit → Act → World → Prop} (hgd : o.guard = none) (x : Operand) (ho : o.op = .load 31 x)
    {g : Nat} {t : TypeId} (hg : Box w g t (machL regs k a b c).toArray) (hx : act.eval x = .pointer (some ⟨g, 0, none⟩)) (hl : regs.length = 8)
    (h : wpList Tryz.prog ops Q rest (act.put o.dst (.agg (machL regs k a b c).toArray)) w) : wpList Tryz.prog ops Q (o :: rest) act w :=
  wpList_load_box hgd 31 x ho hg hx Tryz.underlying31 rfl (info_mach hl) h
end
theorem Own.one_ {α : Type} {enc : α → List Value} {e : TypeId} {size base : Nat} {w : World} {v : Value} {xs : List α} (h : Own enc e size w base v xs) : v.oneCell' = true := by
  obtain ⟨A, c, rfl⟩ := h.form
  rfl
end Go.Proofs.YthmpnnfejghhfaaGreatDoor
namespace Go.Proofs.YthmpnnfejghhfaaGreatDoor
open Go.RowKit
set_option linter.unusedVariables false
set_option linter.unusedSimpArgs false
set_option maxRecDepth 100000

section
variable {T : Nat → Prop} {w0 w w' : World} {rs : List Res}
theorem InvT.nilrow (h : InvT T w0 rs w) (e : TypeId) (size : Nat) : InvT T w0 (rs ++ [.row e size (.slice none 0 0) 0 []]) w := by
  refine ⟨h.but, fun i r hi => ?_, fun i r hi k hk => ?_, fun i j r s hij hi hj k hr hs => ?_⟩
  · rcases Nat.lt_or_ge i rs.length with hl | hl
    · rw [List.getElem?_append_left hl] at hi; exact h.ok i r hi
    · rw [List.getElem?_append_right hl] at hi
      have h0 : i - rs.length = 0 := by have := getElem?_lt hi; simp at this; omega
      rw [h0] at hi; cases hi
      exact World.ownsRow_nil w 0 e size
  · rcases Nat.lt_or_ge i rs.length with hl | hl
    · rw [List.getElem?_append_left hl] at hi; exact h.low i r hi k hk
    · rw [List.getElem?_append_right hl] at hi
      have h0 : i - rs.length = 0 := by have := getElem?_lt hi; simp at this; omega
      rw [h0] at hi; cases hi
      cases hk
  · rcases Nat.lt_or_ge i rs.length with hl | hl <;> rcases Nat.lt_or_ge j rs.length with hl' | hl'
    · rw [List.getElem?_append_left hl] at hi; rw [List.getElem?_append_left hl'] at hj
      exact h.apart i j r s hij hi hj k hr hs
    · rw [List.getElem?_append_right hl'] at hj
      have h0 : j - rs.length = 0 := by have := getElem?_lt hj; simp at this; omega
      rw [h0] at hj; cases hj; cases hs
    · rw [List.getElem?_append_right hl] at hi
      have h0 : i - rs.length = 0 := by have := getElem?_lt hi; simp at this; omega
      rw [h0] at hi; cases hi; cases hr
    · have := getElem?_lt hi; have := getElem?_lt hj; simp at *; omega
end
section
variable {P : Program} {ops : Array Oper} {rest : List Oper} {o : Oper} {a : Act} {T : Nat → Prop} {w0 w : World} {rs : List Res} {K : Act → World → Prop} {Q : Exit → Act → World → Prop}
section
variable {α : Type} {enc : α → List Value} {t e : TypeId} {size bytes : Nat}
end
end
section
variable {regs : List Val} {k : Key} {a b c : Value}
end
section
variable {T : Nat → Prop} {w0 w : World} {rs rs' : List Res} {J : List Nat}
variable {P : Program} {ops : Array Oper} {a : Act} {K : Act → World → Prop} {Q : Exit → Act → World → Prop}
end
section
variable {P : Program} {ops : Array Oper} {rest : List Oper} {o : Oper} {a : Act} {T : Nat → Prop} {w0 w : World} {rs : List Res} {K : Act → World → Prop} {Q : Exit → Act → World → Prop}
end
section
variable {P : Program} {ops : Array Oper} {rest : List Oper} {o1 o2 : Oper} {a : Act} {T : Nat → Prop} {w0 w : World} {rs : List Res} {Q : Exit → Act → World → Prop}
end
end Go.Proofs.YthmpnnfejghhfaaGreatDoor
namespace Go.Proofs.YthmpnnfejghhfaaGreatDoor
open Go Go.RowKit
set_option linter.unusedVariables false
set_option linter.unusedSimpArgs false
set_option maxRecDepth 100000
section
variable {T : Nat → Prop} {w0 w : World} {rs : List Res}
theorem InvT.moreObj (h : InvT T w0 rs w) (o : Obj) : InvT T w0 (rs ++ [.obj w.heap.size o]) (w.alloc o) :=
  h.more ((Below.refl _ w).alloc (Nat.le_refl _) _) (show (w.alloc o).heap[w.heap.size]? = some o from World.alloc_heap_new w o) fun k hk => by cases hk; exact Nat.le_refl _
theorem InvT.putObj (h : InvT T w0 rs w) {i g : Nat} {o : Obj} (hi : rs[i]? = some (.obj g o)) (o' : Obj) : InvT T w0 (rs.set i (.obj g o')) (w.putObj g o') :=
  h.turn hi (grownBy_putObj' w g o') (fun k e => by cases e; exact .inl rfl) (World.putObj_heap_same (h.lt hi rfl)) (fun k e => .inl e)
theorem set_end {xs : List Res} {a b c : Res} : (xs ++ [a, b]).set (xs.length + 1) c = xs ++ [a, c] := by
  rw [List.set_append_right _ _ (by omega)]
  simp
theorem at_end {xs : List Res} {a b : Res} : (xs ++ [a, b])[xs.length + 1]? = some b := by
  rw [List.getElem?_append_right (by omega)]
  simp
theorem at_end0 {xs : List Res} {a b : Res} : (xs ++ [a, b])[xs.length]? = some a := by
  rw [List.getElem?_append_right (by omega)]
  simp
end
def SeqRes {α : Type} (F : Fence) (n : Nat) (P : Program) (gf : Nat) (lb : Array Value) (encs : α → Array Value) (Sx : Nat → α → Prop) (E : Nat → List Res → Prop) (T : Nat → Prop) (w0 : World) (own0 : List Res) : Prop :=
  ∀ (l : Nat) (W : World) (RX : Nat → List Res → Prop), (∃ rsC, RX 0 rsC ∧ InvT T w0 (own0 ++ rsC) W) →
    (∀ (k : Nat) (x : α) (own rsC : List Res) (W1 : World), Sx k x → RX k rsC → InvT T w0 (own ++ rsC) W1 → YieldAt F (n - 1) P l (encs x) W1 fun e W' => e = .returned (.bool true) ∧ ∃ rsC', RX (k + 1) rsC' ∧ InvT T w0 (own ++ rsC') W') →
    CallsIn F n P gf (#[.func (.yield l) #[] #[]] ++ lb) W fun e W' => (∃ v, e = .returned v) ∧ ∃ N own' rsC, E N own' ∧ RX N rsC ∧ InvT T w0 (own' ++ rsC) W'
theorem wpIn_rangeFunc_res {α : Type} {F : Fence} {n : Nat} {P : Program} {g : Operand} {ps : Array Tmp} {assign body : Code} {Q : Exit → Act → World → Prop} {a : Act} {w w0 : World} {T : Nat → Prop}
    (hro : F.round = none) (h1 : 1 ≤ n) {gf : Nat} {lb : Array Value} (hg : a.eval g = .func (.func gf) #[] lb) (hFg : F.fn gf) (eg : ∀ args w, (callFunc gf args).run P w = .ok (.enter gf args) w)
    {encs : α → Array Value} {Sx : Nat → α → Prop} {E : Nat → List Res → Prop} {own0 rsB0 : List Res} (hseq : SeqRes F (n - 1) P gf lb encs Sx E T w0 own0) (hps : ∀ x, (encs x).size = ps.size)
    (RB : Nat → List Res → Prop) (h0 : RB 0 rsB0) (hI : InvT T w0 (own0 ++ rsB0) w) (a₁ : α → Act)
    (hassign : ∀ (l : Nat) (x : α) (W : World) (K : Act → World → Prop), K (a₁ x) W →
      assign.wpIn (F.inRound l) (n - 1 - 1) P (Exit.then K (fun _ _ _ => False)) { tmps := (ps.zip (encs x)).foldl (fun t (p, v) => t.setIfInBounds p v) a.tmps, defers := [] } W)
    (hbody : ∀ (l k : Nat) (x : α) (own rsB objs : List Res) (W : World), Sx k x → RB k rsB → InvT T w0 (own ++ rsB ++ objs) W →
      body.wpIn (F.inRound l) (n - 1 - 1) P (fun e _ W' => e = .normal ∧ ∃ rsB', RB (k + 1) rsB' ∧ InvT T w0 (own ++ rsB' ++ objs) W') (a₁ x) W)
    (hdone : ∀ (D N : Nat) (own' rsB : List Res) (o : Obj) (W : World), E N own' → RB N rsB → InvT T w0 (own' ++ rsB ++ [.obj D (.deferred (some [])), .obj (D + 1) o]) W →
      Q .normal { a with defers := { target := .collected D, args := #[] } :: a.defers } W) :
    (Code.rangeFunc g ps assign body).wpIn F n P Q a w := by
  refine wpIn_rangeFunc ?_
  intro fn hfn
  rw [hro]
  obtain ⟨rec, hrec⟩ : ∃ rec : LoopState → Option Code → Loop, rec = fun st pe => { state := st, pending := pe, fn, tmps := a.tmps, params := ps, assign, body, defers := w.heap.size } := ⟨_, rfl⟩
  obtain ⟨W1, hW1⟩ : ∃ W1, (w.alloc (.deferred (some []))).alloc (.loop (rec .ready none)) = W1 := ⟨_, rfl⟩
  have hI1 : InvT T w0 (own0 ++ rsB0 ++ [.obj w.heap.size (.deferred (some [])), .obj (w.heap.size + 1) (.loop (rec .ready none))]) W1 := by
    have h2 := (hI.moreObj (.deferred (some []))).moreObj (.loop (rec .ready none))
    rw [World.size_alloc, hW1, List.append_assoc] at h2
    exact h2
  refine ⟨w.heap.size + 1, [{ target := .collected w.heap.size, args := #[] }], W1, { target := .fn (.func gf) lb, args := #[.func (.yield (w.heap.size + 1)) #[] #[]] }, W1, gf,
    #[.func (.yield (w.heap.size + 1)) #[] #[]] ++ lb, W1, ?_, ?_, ?_, ?_, fun _ => h1, ?_⟩
  · rw [← hW1, hrec]; exact run_enterLoop_outer _ _ _ _ _
  · simp only [resolve, hg]
    simp [go_sem]
  · intro f' hf'; simp [Target.leads] at hf'; subst hf'; exact hFg
  · simp [invoke, go_sem, eg]
  · refine (hseq (w.heap.size + 1) W1 (fun k rsC => ∃ rsB, RB k rsB ∧ rsC = rsB ++ [.obj w.heap.size (.deferred (some [])), .obj (w.heap.size + 1) (.loop (rec .ready none))]) ⟨_, ⟨rsB0, h0, rfl⟩, by rw [← List.append_assoc]; exact hI1⟩ ?_).mono ?_
    · rintro k x own rsC W hS ⟨rsB, hRB, rfl⟩ hIw
      rw [← List.append_assoc] at hIw
      have hl : W.heap[w.heap.size + 1]? = some (.loop (rec .ready none)) := hIw.ok _ _ at_end
      have hy := run_yield (P := P) (args := encs x) hl (by rw [hrec]; exact hps x)
      rw [hrec] at hy
      refine ⟨fn, _, assign, body, hy, roundIn_of_wpIn hfn (hassign _ x W _ ⟨_, run_beginRound hl (by rw [hrec]), ?_⟩)⟩
      have hI2 := hIw.putObj at_end (.loop { rec .ready none with state := .busy })
      rw [set_end] at hI2
      refine wpIn_mono (hbody _ k x own rsB _ _ hS hRB hI2) ?_
      rintro e a3 W3 ⟨rfl, rsB', hRB', hI3⟩
      have hl3 : W3.heap[w.heap.size + 1]? = some (.loop { rec .ready none with state := .busy }) := hI3.ok _ _ at_end
      have hI4 := hI3.putObj at_end (.loop (rec .ready none))
      rw [set_end, List.append_assoc] at hI4
      have hr := run_endRound (P := P) none hl3
      rw [hrec] at hr hI4 ⊢
      exact ⟨_, _, hr, rfl, _, ⟨rsB', hRB', rfl⟩, hI4⟩
    · rintro e W2 ⟨⟨v, rfl⟩, N, own', rsC, hE, ⟨rsB, hRB, rfl⟩, hIw⟩
      rw [← List.append_assoc] at hIw
      have hl : W2.heap[w.heap.size + 1]? = some (.loop (rec .ready none)) := hIw.ok _ _ at_end
      have hI4 := hIw.putObj at_end (.loop { rec .ready none with state := .exhausted })
      rw [set_end] at hI4
      exact ⟨none, _, by have := run_endLoop (P := P) hl (by rw [hrec]; simp); rw [hrec] at this; exact this, hdone _ N own' rsB _ _ hE hRB (by rw [hrec] at hI4; exact hI4)⟩
end Go.Proofs.YthmpnnfejghhfaaGreatDoor
namespace Go.Proofs.YthmpnnfejghhfaaGreatDoor
open Go.RowKit
set_option linter.unusedVariables false
set_option linter.unusedSimpArgs false
set_option maxRecDepth 100000
def placesN : Mach → Nat → List Int
  | _, 0 => []
  | m, f + 1 => if (oneF m).2 = 0 then m.code.pos :: placesN (oneF m).1 f else []
def runN : Mach → Nat → Mach × Int
  | m, 0 => (m, 15)
  | m, f + 1 => if (oneF m).2 = 0 then runN (oneF m).1 f else (m, (oneF m).2)
theorem runN_ok {m : Mach} (h : MachOk m) : ∀ f : Nat, MachOk (runN m f).1
  | 0 => h
  | f + 1 => by
    unfold runN
    split
    · rename_i h0; exact runN_ok (oneF_ok h h0) f
    · exact h
theorem placesN_len (m : Mach) : ∀ f : Nat, (placesN m f).length ≤ f
  | 0 => Nat.le_refl _
  | f + 1 => by
    unfold placesN
    split
    · have := placesN_len (oneF m).1 f
      simp only [List.length_cons]; omega
    · simp
theorem runN_yes {m : Mach} {f : Nat} (h : (oneF m).2 = 0) : runN m (f + 1) = runN (oneF m).1 f ∧ placesN m (f + 1) = m.code.pos :: placesN (oneF m).1 f := by
  constructor
  · rw [runN, if_pos h]
  · rw [placesN, if_pos h]
theorem runN_no {m : Mach} {f : Nat} (h : ¬ (oneF m).2 = 0) : runN m (f + 1) = (m, (oneF m).2) ∧ placesN m (f + 1) = [] := by
  constructor
  · rw [runN, if_neg h]
  · rw [placesN, if_neg h]
def runF (m : Mach) (fuel : Int) : Mach × List Int × Int × Bool :=
  if inR fuel 0 5000 = false then (⟨List.replicate 8 Val.zero, Key.zero, [], [], []⟩, [], 1, false) else if (machE m != 0) = true then (⟨List.replicate 8 Val.zero, Key.zero, [], [], []⟩, [], machE m, false)
  else ((runN m fuel.toNat).1, placesN m fuel.toNat, (runN m fuel.toNat).2, true)
end Go.Proofs.YthmpnnfejghhfaaGreatDoor
namespace Go.Proofs.YthmpnnfejghhfaaGreatDoor
open Go Go.RowKit Go.Shelf
set_option linter.unusedVariables false
set_option linter.unusedSimpArgs false
set_option maxRecDepth 100000
def itR (gm gw gf gp gq : Nat) (va vs vo : Value) (m : Mach) (e : Int) (fuel : Nat) : List Res :=
  mR gm va vs vo m ++ [.box gw 32 #[.int .i64 e], .box gf 3 #[.int .i64 fuel], .box gp 70 #[.pointer (some ⟨gm, 0, none⟩)], .box gq 85 #[.pointer (some ⟨gw, 0, none⟩)]]
set_option maxHeartbeats 4000000 in
theorem run_seq (n : Nat) (hn : 3 ≤ n) (w0 : World) (hE : Env w0) (gm gw gf gp gq : Nat) (m : Mach) (hM : MachOk m) (h8 : m.regs.length = 8) (fuel : Nat) (hfu : fuel ≤ 5000) (va vs vo : Value) (e0 : Int) :
    SeqRes Fence.wide n Tryz.prog 68 #[.pointer (some ⟨gf, 0, none⟩), .pointer (some ⟨gp, 0, none⟩), .pointer (some ⟨gq, 0, none⟩)] (fun x : Int => #[.int .i64 x]) (fun k x => (placesN m fuel)[k]? = some x)
      (fun N own' => N = (placesN m fuel).length ∧ (runN m fuel).1.regs.length = 8 ∧ ∃ va vs vo, own' = itR gm gw gf gp gq va vs vo (runN m fuel).1 (runN m fuel).2 fuel) (fun _ => False) w0 (itR gm gw gf gp gq va vs vo m e0 fuel) := by
  intro l W RX h0 hY
  obtain ⟨rsC, hRX, hI⟩ := h0
  refine callsIn_of_wp Tryz.func68 rfl trivial ?_ rfl
  simp only [Tryz.ntmps68, List.size_toArray, List.length_cons, List.length_nil, Nat.reduceAdd, Nat.reduceSub, Array.replicate_succ, Array.replicate_zero, List.push_toArray, List.append_toArray, List.nil_append, List.cons_append]
  unfold itR mR at hI
  simp only [List.cons_append, List.nil_append] at hI
  have c0 := hI.cell (i := 0) rfl
  have c4 := hI.cell (i := 4) rfl
  have c5 := hI.cell (i := 5) rfl
  have c6 := hI.cell (i := 6) rfl
  have c7 := hI.cell (i := 7) rfl
  gi_wp2
  gi_loopw [7] (fun p wr => ∃ (j : Nat) (mj : Mach) (va vs vo : Value) (e : Int) (rsC : List Res), p = .int .i64 j ∧ j ≤ fuel ∧ MachOk mj ∧ mj.regs.length = 8 ∧ runN m fuel = runN mj (fuel - j) ∧ (placesN m fuel).length = j + (placesN mj (fuel - j)).length ∧ (∀ (i : Nat) x, (placesN mj (fuel - j))[i]? = some x → (placesN m fuel)[j + i]? = some x) ∧ RX j rsC ∧
      InvT (fun _ => False) w0 (itR gm gw gf gp gq va vs vo mj e fuel ++ rsC) wr) (fun p _ => (fuel - intOf p).toNat)
  case atStart => exact ⟨0, m, va, vs, vo, e0, rsC, rfl, by omega, hM, h8, rfl, by simp, fun i x h => by simpa using h, hRX, hI⟩
  case round =>
    clear hI c0 c4 c5 c6 c7
    obtain ⟨j, mj, va, vs, vo, e, rsC, rfl, hj, hMj, h8j, hrun, hlen, hat, hRX, hI⟩ := hrel
    unfold itR mR at hI
    simp only [List.cons_append, List.nil_append] at hI
    rcases Nat.lt_or_ge j fuel with hlt | hge
    · have hkz : (j : Int) < fuel := by omega
      obtain ⟨f, hf⟩ : ∃ f, fuel - j = f + 1 := ⟨fuel - j - 1, by omega⟩
      have p59 : (machL mj.regs mj.code va vs vo).toArray[59]? = some (.int .i64 mj.code.pos) := by rw [List.getElem?_toArray]; exact machL_59 h8j
      have c0 := hI.cell (i := 0) rfl
      have c4 := hI.cell (i := 4) rfl
      have c5 := hI.cell (i := 5) rfl
      have c6 := hI.cell (i := 6) rfl
      have c7 := hI.cell (i := 7) rfl
      gi_wp2
      clear c0 c4 c5 c6 c7 p59
      refine wpIn_wide.2 ?_
      (refine wp_region_K [6, 7] (by kernel_rfl) hI fun w' hI' hHeld => ?_; (try clear hb); replace hI := hI'; clear hI'; replace cF := hI.facts; (try simp only [mm, Act.put, Act.eval] at hI cF))
      (refine tk 0 ?_; (try simp only [np, Act.put])); (refine tk 1 ?_; (try simp only [np, Act.put]))
      refine oneH (i := 2) (by kernel_rfl) rfl (fun K hK => ?_)
      (go_simp; refine (c_One ⟨h8j, va, vs, vo, InvT.enter (ts := _ :: _ :: _ :: _ :: rsC) hI⟩ hMj (hE.inv hI)).mono ?_; rintro ed w2 ⟨rfl, h8n, va', vs', vo', hI3⟩; have hI' := (InvT.cast hI (rs' := mR gm va vs vo mj ++ (_ :: _ :: _ :: _ :: rsC)) rfl).frame hI3; unfold mR at hI'; simp only [List.cons_append, List.nil_append] at hI'; have hb : Below 0 w2 w2 := Below.refl _ _; refine hK.out _ _ (hI'.held (by simp)) (fun hHeld => ?_); clear hK K; (try clear hb); replace hI := hI'; clear hI'; replace cF := hI.facts; (try simp only [mm, Act.put, Act.eval] at hI cF); (try simp only [np, Act.put]))
      (refine tk 3 ?_; (try simp only [np, Act.put]))
      refine oneH (i := 4) (by kernel_rfl) rfl (fun K hK => ?_)
      (refine stepI rfl (wpI_store1 _ _ _ rfl hI rfl 4 rfl rfl rfl (by simp) (by kernel_rfl) fun w' hI' => hK.out _ _ (hI'.held (by simp)) (fun hHeld => ?_)); clear hK K; (try clear hb); replace hI := hI'; clear hI'; replace cF := hI.facts; (try simp only [mm, Act.put, Act.eval] at hI cF); (try simp only [np, Act.put]))
      refine wpAnyH_done (by kernel_rfl) ?_ _
      clear hHeld
      by_cases he : (oneF mj).2 = 0
      · have hne : ((oneF mj).2 != 0) = false := by rw [he]; rfl
        have hry := runN_yes (f := f) he
        rw [hf] at hrun hlen hat
        rw [hry.1] at hrun
        rw [hry.2] at hlen hat
        have hx : (placesN m fuel)[j]? = some mj.code.pos := hat 0 _ rfl
        have hI' := InvT.cast hI (rs' := itR gm gw gf gp gq va' vs' vo' (oneF mj).1 (oneF mj).2 fuel ++ rsC) rfl
        obtain ⟨fn, tmps, assign, body, hy, hR⟩ := hY j _ _ _ _ hx hRX hI'
        clear hI'
        (try clear cF); have cF := hI.facts; (try simp only [mm] at cF)
        gi_wp2
        refine ⟨fun _ => by omega, hR.mono ?_⟩
        rintro ed W' ⟨rfl, rsC', hRX', hI'⟩
        gi_wp2
        go_roundw
        case rel => exact ⟨j + 1, (oneF mj).1, va', vs', vo', (oneF mj).2, rsC', by go_num, by omega, oneF_ok hMj he, h8n, by rw [hrun]; congr 1; omega, by rw [hlen]; simp only [List.length_cons]; rw [show fuel - (j + 1) = f by omega]; omega, fun i x h => by rw [show j + 1 + i = j + (i + 1) by omega]; exact hat (i + 1) x (by rw [show fuel - (j + 1) = f by omega] at h; simpa using h), hRX', hI'⟩
        case measure => simp [intOf]; omega
      · have hne : ((oneF mj).2 != 0) = true := by simpa using he
        (try clear cF); have cF := hI.facts; (try simp only [mm] at cF)
        gi_wp2
        refine ⟨fun _ h => (by cases h), ?_⟩
        gi_wp2
        have hrn := runN_no (f := f) he
        rw [hf, hrn.1] at hrun
        rw [hf, hrn.2] at hlen
        have hm' := oneF_err he
        refine bodyPost_ret (results_none rfl _ _ _) rfl ?_
        refine ⟨⟨_, rfl⟩, j, _, rsC, ⟨by rw [hlen]; rfl, by rw [hrun]; exact h8j, va', vs', vo', rfl⟩, hRX, ?_⟩
        rw [hrun]
        rw [hm'] at hI
        exact hI
    · obtain rfl : j = fuel := by omega
      have hkz : ¬ (j : Int) < j := by omega
      have c0 := hI.cell (i := 0) rfl
      have c4 := hI.cell (i := 4) rfl
      have c5 := hI.cell (i := 5) rfl
      have c6 := hI.cell (i := 6) rfl
      have c7 := hI.cell (i := 7) rfl
      have f4 := fun o => (hI.box (i := 4) rfl).frozen o
      gi_wp2
      have hI' := hI.put (i := 4) rfl (grown_setCell wr gw 0 (.int .i64 15)) ((hI.box (i := 4) rfl).set_ 0 (.int .i64 15))
      go_end0
      exact ⟨⟨_, rfl⟩, j, _, ⟨rfl, h8j, va, vs, vo, rfl⟩, rsC, hRX, hI'⟩
end Go.Proofs.YthmpnnfejghhfaaGreatDoor
namespace Go.Proofs.YthmpnnfejghhfaaGreatDoor
open Go Go.RowKit Go.Shelf
set_option linter.unusedVariables false
set_option linter.unusedSimpArgs false
set_option maxRecDepth 100000
theorem InvT.sel {T : Nat → Prop} {w0 w : World} {rs : List Res} (h : InvT T w0 rs w) (is : List Nat) (rs' : List Res) (hn : is.Nodup) (he : rs'.map some = is.map (fun i => rs[i]?)) : InvT T w0 rs' w := by
  have hat : ∀ (k : Nat) r, rs'[k]? = some r → ∃ i, is[k]? = some i ∧ rs[i]? = some r := fun k r hk => by
    have h1 : (rs'.map some)[k]? = some (some r) := by rw [List.getElem?_map, hk]; rfl
    rw [he, List.getElem?_map] at h1
    cases hi : is[k]? with
    | none => rw [hi] at h1; cases h1
    | some i => rw [hi] at h1; exact ⟨i, rfl, Option.some.inj h1⟩
  refine ⟨h.but, fun k r hk => ?_, fun k r hk g hg => ?_, fun k j r s hkj hk hj g hr hs => ?_⟩
  · obtain ⟨i, -, hi⟩ := hat k r hk
    exact h.ok i r hi
  · obtain ⟨i, -, hi⟩ := hat k r hk
    exact h.low i r hi g hg
  · obtain ⟨i, hi0, hi⟩ := hat k r hk
    obtain ⟨l, hl0, hl⟩ := hat j s hj
    refine h.apart i l r s (fun e => hkj ?_) hi hl g hr hs
    subst e
    exact (List.getElem?_inj (List.getElem?_eq_some_iff.1 hi0).1 hn).1 (hi0.trans hl0.symm)
theorem InvT.join' {T : Nat → Prop} {w0 w w' : World} {rs rs2 : List Res} (h : InvT T w0 rs w) (h2 : Inv w rs2 w') : InvT T w0 (rs ++ rs2) w' := by
  have h1 := h.on h2.below
  have hz := h.size
  have low2 : ∀ (i : Nat) r, rs2[i]? = some r → ∀ k, r.blk = some k → w.heap.size ≤ k := fun i r hi k hk => (h2.low i r hi k hk).resolve_left id
  refine ⟨h1.but, fun i s hi => ?_, fun i s hi k hk => ?_, fun i j s t hij hi hj k hs ht => ?_⟩
  · rcases Nat.lt_or_ge i rs.length with hl | hl
    · rw [List.getElem?_append_left hl] at hi; exact h1.ok i s hi
    · rw [List.getElem?_append_right hl] at hi; exact h2.ok _ s hi
  · rcases Nat.lt_or_ge i rs.length with hl | hl
    · rw [List.getElem?_append_left hl] at hi; exact h1.low i s hi k hk
    · rw [List.getElem?_append_right hl] at hi
      have := low2 _ s hi k hk
      exact .inr (by omega)
  · rcases Nat.lt_or_ge i rs.length with l1 | l1 <;> rcases Nat.lt_or_ge j rs.length with l2 | l2
    · rw [List.getElem?_append_left l1] at hi; rw [List.getElem?_append_left l2] at hj
      exact h1.apart i j s t hij hi hj k hs ht
    · rw [List.getElem?_append_left l1] at hi; rw [List.getElem?_append_right l2] at hj
      have := low2 _ t hj k ht; have := h.lt hi hs; omega
    · rw [List.getElem?_append_right l1] at hi; rw [List.getElem?_append_left l2] at hj
      have := low2 _ s hi k hs; have := h.lt hj ht; omega
    · rw [List.getElem?_append_right l1] at hi; rw [List.getElem?_append_right l2] at hj
      exact h2.apart _ _ s t (by omega) hi hj k hs ht
theorem c_run_check (mc : Array Value) (m : Mach) (fuel : Int) (w : World) (hm : MachV w w.heap.size mc m) :
    Calls Tryz.prog 36 #[.agg mc, .int .i64 fuel] w (Ret (.int .i64 (if inR fuel 0 5000 = false then 1 else machE m)) w) := by
  have HM := Lib.hid hm
  have hsz := hm.size
  clear hm
  cases hf : inR fuel 0 5000
  · have hf' := inR_not.1 hf
    by_cases h0 : fuel < 0
    · go_enter Tryz.func36, Tryz.ntmps36
      have hI := Inv.start w
      go_wp2_with (first | (refine listI rfl fun K hK => wpI_box _ _ rfl hI rfl fun gx w' hI' hb => hK _ _ ?_; clear hK K; (try clear hb); replace hI := hI'; clear hI'; replace cF := hI.facts; (try simp only [mm, Act.put, Act.eval] at hI cF)) | (refine listI rfl fun K hK => wpI_box1 _ _ rfl hI rfl rfl fun gx w' hI' hb => hK _ _ ?_; clear hK K; (try clear hb); replace hI := hI'; clear hI'; replace cF := hI.facts; (try simp only [mm, Act.put, Act.eval] at hI cF)) | fail)
      go_returns
      exact Ret.int rfl hI.below
    · have h1 : 5000 < fuel := by omega
      go_enter Tryz.func36, Tryz.ntmps36
      have hI := Inv.start w
      go_wp2_with (first | (refine listI rfl fun K hK => wpI_box _ _ rfl hI rfl fun gx w' hI' hb => hK _ _ ?_; clear hK K; (try clear hb); replace hI := hI'; clear hI'; replace cF := hI.facts; (try simp only [mm, Act.put, Act.eval] at hI cF)) | (refine listI rfl fun K hK => wpI_box1 _ _ rfl hI rfl rfl fun gx w' hI' hb => hK _ _ ?_; clear hK K; (try clear hb); replace hI := hI'; clear hI'; replace cF := hI.facts; (try simp only [mm, Act.put, Act.eval] at hI cF)) | fail)
      go_returns
      exact Ret.int rfl hI.below
  · have hf' := inR_iff.1 hf
    have h0 : ¬ fuel < 0 := by omega
    have h1 : ¬ 5000 < fuel := by omega
    go_enter Tryz.func36, Tryz.ntmps36
    have hI := Inv.start w
    go_wp2_with (first | (refine listI rfl fun K hK => wpI_box _ _ rfl hI rfl fun gx w' hI' hb => hK _ _ ?_; clear hK K; (try clear hb); replace hI := hI'; clear hI'; replace cF := hI.facts; (try simp only [mm, Act.put, Act.eval] at hI cF)) | (refine listI rfl fun K hK => wpI_box1 _ _ rfl hI rfl rfl fun gx w' hI' hb => hK _ _ ?_; clear hK K; (try clear hb); replace hI := hI'; clear hI'; replace cF := hI.facts; (try simp only [mm, Act.put, Act.eval] at hI cF)) | (refine wpList_load_box rfl 31 _ rfl (hI.box (i := 0) rfl) rfl Tryz.underlying31 rfl (by first | exact info_mach (by assumption) | (simp only [hsz1]; kernel_rfl) | (simp only [hsz2]; kernel_rfl) | (simp only [hsz]; kernel_rfl) | kernel_rfl) ?_) | (go_at_call 27; (with_reducible refine (c_step_Check mc m _ (hI.mach HM.out)).mono ?_); intro e w' hr; obtain ⟨rfl, hb⟩ := hr; have hI' := hI.on hb; (try clear hb); replace hI := hI'; clear hI'; replace cF := hI.facts; (try simp only [mm, Act.put, Act.eval] at hI cF)) | fail)
    go_returns
    exact Ret.int (by simp) hI.below
theorem c_run_steps (gm gw : Nat) (fuel : Int) (w : World) :
    Calls Tryz.prog 37 #[.pointer (some ⟨gm, 0, none⟩), .int .i64 fuel, .pointer (some ⟨gw, 0, none⟩)] w fun ed w' => ∃ gp gf gq, ed = .returned (.func (.func 68) #[] #[.pointer (some ⟨gf, 0, none⟩), .pointer (some ⟨gp, 0, none⟩), .pointer (some ⟨gq, 0, none⟩)]) ∧
      Inv w [.box gp 70 #[.pointer (some ⟨gm, 0, none⟩)], .box gf 3 #[.int .i64 fuel], .box gq 85 #[.pointer (some ⟨gw, 0, none⟩)]] w' := by
  have hmf : ∀ (fn : Fn) (first cap : Array Value) (w : World), (Instr.makeFunc fn first cap).run Tryz.prog w = .ok (.func fn first cap) w := fun _ _ _ _ => rfl
  go_enter Tryz.func37, Tryz.ntmps37
  have hI := Inv.start w
  go_wp2_with (first | (refine listI rfl fun K hK => wpI_box _ _ rfl hI rfl fun gx w' hI' hb => hK _ _ ?_; clear hK K; (try clear hb); replace hI := hI'; clear hI'; replace cF := hI.facts; (try simp only [mm, Act.put, Act.eval] at hI cF)) | (refine listI rfl fun K hK => wpI_box1 _ _ rfl hI rfl rfl fun gx w' hI' hb => hK _ _ ?_; clear hK K; (try clear hb); replace hI := hI'; clear hI'; replace cF := hI.facts; (try simp only [mm, Act.put, Act.eval] at hI cF)) | fail)
  go_returns
  exact ⟨_, _, _, rfl, hI⟩
end Go.Proofs.YthmpnnfejghhfaaGreatDoor
namespace Go.Proofs.YthmpnnfejghhfaaGreatDoor
open Go Go.RowKit Go.Shelf
set_option linter.unusedVariables false
set_option linter.unusedSimpArgs false
set_option maxRecDepth 100000
attribute [local go_sem] Oper.semAt_some
def RetMR (w : World) (m : Mach) (f : Value → Value) : Ending → World → Prop := fun ed w' => ∃ va vs vo, m.regs.length = 8 ∧ ed = .returned (f (.agg (machL m.regs m.code va vs vo).toArray)) ∧
  Inv w [.row 25 7 va m.mem.length (m.mem.flatMap encV), .row 73 12 vs m.stack.length (m.stack.flatMap encF), .row 3 1 vo m.out.length (m.out.flatMap encI)] w'
theorem RetMR.zero {w w' : World} {f : Value → Value} (hb : Below w.heap.size w w') : RetMR w Mach.zero f (.returned (f (.agg zeroMC))) w' :=
  ⟨nilS, nilS, nilS, rfl, rfl, (((Inv.start w).on hb).nilrow _ _).nilrow _ _ |>.nilrow _ _⟩
theorem RetMR.mach {w w' : World} {m : Mach} {f : Value → Value} {ed : Ending} (h : RetMR w m f ed w') : RetMach w m f ed w' := by
  obtain ⟨va, vs, vo, h8, rfl, hI⟩ := h
  exact ⟨_, rfl, machV_own (InvT.own0 (enc := encV) (xs := m.mem) (size := 7) hI (i := 0) rfl) (InvT.own0 (enc := encF) (xs := m.stack) (size := 12) hI (i := 1) rfl) (InvT.own0 (enc := encI) (xs := m.out) (size := 1) hI (i := 2) rfl) h8, hI.below⟩
theorem c_run_no (mc : Array Value) (m : Mach) (fuel : Int) (w : World) (hm : MachV w w.heap.size mc m) (e : Int) (he : (if inR fuel 0 5000 = false then 1 else machE m) = e) (h0 : ¬ e = 0) :
    Calls Tryz.prog 16 #[.agg mc, .int .i64 fuel] w (RetMR w Mach.zero fun v => .tuple #[v, .int .i64 0, .int .i64 e]) := by
  have HM := Lib.hid hm
  have hsz := hm.size
  have HC := Lib.hid (fun w h => he ▸ c_run_check mc m fuel w h)
  have h1 : (e != 0) = true := by simpa using h0
  clear hm he
  go_enter Tryz.func16, Tryz.ntmps16
  have hI := Inv.start w
  go_wp2_with (first | (refine listI rfl fun K hK => wpI_box _ _ rfl hI rfl fun gx w' hI' hb => hK _ _ ?_; clear hK K; (try clear hb); replace hI := hI'; clear hI'; replace cF := hI.facts; (try simp only [mm, Act.put, Act.eval] at hI cF)) | (refine listI rfl fun K hK => wpI_box1 _ _ rfl hI rfl rfl fun gx w' hI' hb => hK _ _ ?_; clear hK K; (try clear hb); replace hI := hI'; clear hI'; replace cF := hI.facts; (try simp only [mm, Act.put, Act.eval] at hI cF)) | (refine listI rfl fun K hK => wpI_alloc 31 rfl hI Tryz.zeroValue31 (cs := zeroMC) (by first | rfl | kernel_rfl) fun gx w' hI' hb => hK _ _ ?_; clear hK K; (try clear hb); replace hI := hI'; clear hI'; replace cF := hI.facts; (try simp only [mm, Act.put, Act.eval] at hI cF)) | (refine wpList_load_box rfl 31 _ rfl (hI.box (i := 0) rfl) rfl Tryz.underlying31 rfl (by first | exact info_mach (by assumption) | (simp only [hsz1]; kernel_rfl) | (simp only [hsz2]; kernel_rfl) | (simp only [hsz]; kernel_rfl) | kernel_rfl) ?_) | (go_at_call 36; (with_reducible refine (HC.out _ (hI.mach HM.out)).mono ?_); intro e w' hr; obtain ⟨rfl, hb⟩ := hr; have hI' := hI.on hb; (try clear hb); replace hI := hI'; clear hI'; replace cF := hI.facts; (try simp only [mm, Act.put, Act.eval] at hI cF)) | (refine listI rfl fun K hK => wpI_storeW _ _ _ rfl hI rfl 1 rfl rfl rfl (by kernel_rfl) (by simp [Value.oneCell']) fun w' hI' => hK _ _ ?_; clear hK K; (try clear hb); replace hI := hI'; clear hI'; replace cF := hI.facts; (try simp only [mm, Act.put, Act.eval] at hI cF)) | fail)
  have hbx := hI.box (i := 1) rfl
  ((try simp only [Exit.inBlock, Exit.then]); refine bodyPost_ret (results_ctt rfl rfl hbx Tryz.underlying31 rfl (by kernel_rfl)) rfl ?_)
  exact RetMR.zero (f := fun v => .tuple #[v, .int .i64 0, .int .i64 e]) hI.below
set_option maxHeartbeats 4000000 in
theorem c_run_ok (mc : Array Value) (m : Mach) (fuel : Int) (w : World) (hm : MachV w w.heap.size mc m) (hE : Env w) (hf : inR fuel 0 5000 = true) (h0 : (machE m != 0) = false) :
    Calls Tryz.prog 16 #[.agg mc, .int .i64 fuel] w (RetMR w (runN m fuel.toNat).1 fun v => .tuple #[v, .int .i64 (placesN m fuel.toNat).length, .int .i64 (runN m fuel.toNat).2]) := by
  have HM := Lib.hid hm
  have hsz := hm.size
  have HE := Lib.hid hE
  have HOK := Lib.hid (machE_ok h0)
  have HC := Lib.hid (fun w h => (show (if inR fuel 0 5000 = false then 1 else machE m) = 0 by rw [hf]; simpa using h0) ▸ c_run_check mc m fuel w h)
  obtain ⟨f, rfl⟩ : ∃ f : Nat, fuel = f := ⟨fuel.toNat, by have := inR_iff.1 hf; omega⟩
  have hf5 : f ≤ 5000 := by have := inR_iff.1 hf; omega
  rw [Int.toNat_natCast]
  clear hm hE hf h0
  refine (callsIn_wide (n := 6)).1 ?_
  refine callsIn_of_wp_marks Tryz.func16 rfl trivial ?_ rfl
  refine wpIn_wide.2 ?_
  simp only [Tryz.ntmps16, List.size_toArray, List.length_cons, List.length_nil, Nat.reduceAdd, Nat.reduceSub, Array.replicate_succ, Array.replicate_zero, List.push_toArray, List.append_toArray, List.nil_append, List.cons_append]
  have hI := Inv.start w
  go_wp2_with (first
    | ((first | (refine listI rfl fun K hK => wpI_box _ _ rfl hI rfl fun gx w' hI' hb => hK _ _ ?_; clear hK K; (try clear hb); replace hI := hI'; clear hI'; replace cF := hI.facts; (try simp only [mm, Act.put, Act.eval] at hI cF)) | (refine listI rfl fun K hK => wpI_box1 _ _ rfl hI rfl rfl fun gx w' hI' hb => hK _ _ ?_; clear hK K; (try clear hb); replace hI := hI'; clear hI'; replace cF := hI.facts; (try simp only [mm, Act.put, Act.eval] at hI cF))); obtain ⟨gm, rfl⟩ : ∃ y, y = gx := ⟨_, rfl⟩) | ((refine listI rfl fun K hK => wpI_alloc 31 rfl hI Tryz.zeroValue31 (cs := zeroMC) (by first | rfl | kernel_rfl) fun gx w' hI' hb => hK _ _ ?_; clear hK K; (try clear hb); replace hI := hI'; clear hI'; replace cF := hI.facts; (try simp only [mm, Act.put, Act.eval] at hI cF)); obtain ⟨gr, rfl⟩ : ∃ y, y = gx := ⟨_, rfl⟩) | (refine wpList_load_box rfl 31 _ rfl (hI.box (i := 0) rfl) rfl Tryz.underlying31 rfl (by first | exact info_mach (by assumption) | (simp only [hsz1]; kernel_rfl) | (simp only [hsz2]; kernel_rfl) | (simp only [hsz]; kernel_rfl) | kernel_rfl) ?_) | (go_at_call 36; (with_reducible refine (HC.out _ (hI.mach HM.out)).mono ?_); intro e w' hr; obtain ⟨rfl, hb⟩ := hr; have hI' := hI.on hb; (try clear hb); replace hI := hI'; clear hI'; replace cF := hI.facts; (try simp only [mm, Act.put, Act.eval] at hI cF))
    | (go_at_call 28; refine (c_step_Copied mc m _ (hI.mach HM.out) HOK.out.len HOK.out.deep HOK.out.outs).mono ?_; rintro e w' ⟨mc', rfl, hO, hb⟩; have h8 := hO.regs; obtain ⟨va, vs, vo, rfl, hI'⟩ := hI.machO hb hO; clear hO; (try clear hb); replace hI := hI'; clear hI'; replace cF := hI.facts; (try simp only [mm, Act.put, Act.eval] at hI cF))
    | (refine listI rfl fun K hK => wpI_storeW _ _ _ rfl hI rfl 0 rfl rfl (by rw [hsz, List.size_toArray, machL_length h8]) (info_mach h8) (machL_one h8 (hI.one (i := 2) rfl) (hI.one (i := 3) rfl) (hI.one (i := 4) rfl)) fun w' hI' => hK _ _ ?_; clear hK K; (try clear hb); replace hI := hI'; clear hI'; replace cF := hI.facts; (try simp only [mm, Act.put, Act.eval] at hI cF))
    | ((refine listI rfl fun K hK => wpI_alloc 32 rfl hI Tryz.zeroValue32 (cs := #[.int .i64 0]) (by first | rfl | kernel_rfl) fun gx w' hI' hb => hK _ _ ?_; clear hK K; (try clear hb); replace hI := hI'; clear hI'; replace cF := hI.facts; (try simp only [mm, Act.put, Act.eval] at hI cF)); obtain ⟨gw, rfl⟩ : ∃ y, y = gx := ⟨_, rfl⟩) | ((refine listI rfl fun K hK => wpI_alloc 3 rfl hI Tryz.zeroValue3 (cs := #[.int .i64 0]) (by first | rfl | kernel_rfl) fun gx w' hI' hb => hK _ _ ?_; clear hK K; (try clear hb); replace hI := hI'; clear hI'; replace cF := hI.facts; (try simp only [mm, Act.put, Act.eval] at hI cF)); obtain ⟨gn, rfl⟩ : ∃ y, y = gx := ⟨_, rfl⟩) | (refine listI rfl fun K hK => wpI_store1 _ _ _ rfl hI rfl 6 rfl rfl rfl (by simp) (by kernel_rfl) fun w' hI' => hK _ _ ?_; clear hK K; (try clear hb); replace hI := hI'; clear hI'; replace cF := hI.facts; (try simp only [mm, Act.put, Act.eval] at hI cF))
    | (go_at_call 37; refine (c_run_steps _ _ _ _).mono ?_; rintro e w' ⟨gp, gf, gq, rfl, hI2⟩; have hb := hI2.below; have hI' := hI.join' hI2; clear hI2; (try clear hb); replace hI := hI'; clear hI'; replace cF := hI.facts; (try simp only [mm, Act.put, Act.eval] at hI cF))
    | fail)
  have hI1 := hI.sel [0, 2, 3, 4, 5, 8, 7, 9, 1, 6] (itR gm gw gf gp gq va vs vo m 0 f ++ [.box gr 31 zeroMC, .box gn 3 #[.int .i64 (0 : Nat)]]) (by decide) rfl
  clear hI cF
  refine (wpIn_wide (n := 6)).1 ?_
  refine wpIn_rangeFunc_res (n := 6) rfl (by omega) (gf := 68) (lb := #[.pointer (some ⟨gf, 0, none⟩), .pointer (some ⟨gp, 0, none⟩), .pointer (some ⟨gq, 0, none⟩)]) rfl trivial (enters_of Tryz.func68 (by kernel_rfl) rfl) (run_seq 5 (by omega) w HE.out gm gw gf gp gq m HOK.out h8 f hf5 va vs vo 0) (fun _ => rfl)
    (fun k rsB => rsB = [.box gr 31 zeroMC, .box gn 3 #[.int .i64 k]]) rfl hI1 ?a1 ?assign ?body ?done
  case assign =>
    intro l x W K hK
    gi_wp2
    exact hK
  case body =>
    rintro l k x own rsB objs W hx rfl hI
    have hi : (own ++ [Res.box gr 31 zeroMC, Res.box gn 3 #[.int .i64 k]] ++ objs)[own.length + 1]? = some (.box gn 3 #[.int .i64 k]) := by
      rw [List.append_assoc, List.getElem?_append_right (by omega)]
      simp
    have c0 := hI.cell hi
    have f0 := fun o => (hI.box hi).frozen o
    have hk5 : k < 5000 := by have := (List.getElem?_eq_some_iff.1 hx).1; have := placesN_len m f; omega
    have e1 : Go.RowKit.wrap64 ((k : Int) + 1) = (k : Int) + 1 := by unfold Go.RowKit.wrap64; omega
    have h := hI.put hi (grown_setCell W gn 0 (.int .i64 ((k : Int) + 1))) ((hI.box hi).set_ 0 _)
    have e2 : ∀ c : Res, (own ++ [Res.box gr 31 zeroMC, Res.box gn 3 #[.int .i64 k]] ++ objs).set (own.length + 1) c = own ++ Res.box gr 31 zeroMC :: c :: objs := fun c => by
      rw [List.append_assoc, List.set_append_right _ _ (by omega)]
      simp
    rw [e2] at h
    gi_wp2
    exact h
  case done =>
    rintro D N own' rsB o W ⟨rfl, h8', va', vs', vo', rfl⟩ rfl hI
    rename_i Q1 _ _ _ _ _ _ _ _ K1 hK1
    change K1 _ W
    refine hK1 _ W ?_
    clear hK1 K1 HC HE HOK HM
    refine Code.wp_mono (Q := fun e a w => match e with | .panic _ => False | e => Q1 e a w) (fun e a w h => by cases e <;> first | exact h | cases h) ?_
    unfold itR mR at hI
    simp only [List.cons_append, List.nil_append] at hI
    have cF := hI.facts
    (try simp only [mm] at cF)
    go_wp2_with fail
    (refine wp_region_K [0, 4, 9] (by kernel_rfl) hI fun w' hI' hHeld => ?_; (try clear hb); replace hI := hI'; clear hI'; replace cF := hI.facts; (try simp only [mm, Act.put, Act.eval] at hI cF))
    (refine takeH (i := 0) rfl (by kernel_rfl) (by kernel_rfl) (by kernel_rfl) (fun _ _ _ _ h => h) (by rfl) (by assumption) ⟨_, fun W hSw => run_load_box 31 (.tmp 2) rfl rfl (hSw.box 0 (by decide) rfl) Tryz.underlying31 rfl (by first | exact info_mach (by assumption) | (simp only [hsz1]; kernel_rfl) | (simp only [hsz2]; kernel_rfl) | (simp only [hsz]; kernel_rfl) | kernel_rfl), ?_⟩; (try simp only [Act.put, List.setIfInBounds_toArray, List.set_cons_zero, List.set_cons_succ]))
    (refine tk 1 ?_; (try simp only [np, Act.put])); (refine tk 2 ?_; (try simp only [np, Act.put]))
    refine oneH (i := 3) (by kernel_rfl) rfl (fun K hK => ?_)
    (refine stepI rfl (wpI_storeW _ _ _ rfl hI rfl 8 rfl rfl (zeroMC_size.trans (by rw [List.size_toArray, machL_length h8'])) (info_mach h8') (machL_one h8' (hI.one (i := 1) rfl) (hI.one (i := 2) rfl) (hI.one (i := 3) rfl)) fun w' hI' => hK.out _ _ (hI'.held (by simp)) (fun hHeld => ?_)); clear hK K; (try clear hb); replace hI := hI'; clear hI'; replace cF := hI.facts; (try simp only [mm, Act.put, Act.eval] at hI cF); (try simp only [np, Act.put]))
    (refine tk 4 ?_; (try simp only [np, Act.put]))
    (refine tk 5 ?_; (try simp only [np, Act.put]))
    refine wpAnyH_done (by kernel_rfl) ?_ _
    go_wp2_with fail
    have hI3 := hI.putObj (i := 10) rfl (.deferred none)
    refine ⟨by simp, .inl ⟨_, _, rfl, run_takeDeferred (hI.ok 10 _ rfl), ?_⟩⟩
    refine ⟨_, results_ctt rfl rfl (hI3.box (i := 8) rfl) Tryz.underlying31 rfl (info_mach h8'), ?_⟩
    exact ⟨_, _, _, h8', rfl, hI3.sel [1, 2, 3] _ (by decide) rfl⟩
end Go.Proofs.YthmpnnfejghhfaaGreatDoor
namespace Go.Proofs.YthmpnnfejghhfaaGreatDoor
open Go Go.RowKit Go.Shelf
set_option linter.unusedVariables false
set_option linter.unusedSimpArgs false
set_option maxRecDepth 100000
attribute [local go_sem] Oper.semAt_some
theorem wp_in {l n : Nat} {P : Program} {o : Oper} {a : Act} {w : World} {K : Act → World → Prop} {Q : Exit → Act → World → Prop} (hd : ∀ c, o.op ≠ .defer c) (h : o.wp P a w K Q) : o.wpIn (Fence.wide.inRound l) n P a w K Q := by
  refine ⟨fun _ _ => trivial, ?_⟩
  rw [Oper.semAt_plain _ _ _ hd]
  unfold Oper.wp at h
  generalize (execOp a.eval o).run P w = r at *
  cases r with
  | ok x w' =>
    cases x <;> simp only [Oper.upon, Oper.uponIn] at h ⊢ <;>
      first
        | exact h
        | exact ⟨(fun h => by cases h), CallsIn.inRound l (callsIn_wide.2 h)⟩
        | exact ⟨(fun h => by cases h), fun c cs _ => let ⟨v, w1, r, s⟩ := h c cs; ⟨v, w1, r, stepsIn_wide.2 s⟩⟩
  | halt x w' => cases x <;> simp only [Oper.upon, Oper.uponIn] at h ⊢ <;> exact h
theorem listN {l n : Nat} {P : Program} {ops : Array Oper} {Q : Exit → Act → World → Prop} {a : Act} {w : World} {rest : List Oper} {o : Oper} (hg : o.guard = none) (hd : ∀ c, o.op ≠ .defer c)
    (h : ∀ K, (∀ a w, wpListIn (Fence.wide.inRound l) n P ops Q rest a w → K a w) → o.wp P a w K Q) : wpListIn (Fence.wide.inRound l) n P ops Q (o :: rest) a w :=
  wpListIn_plain hg fun K hK => wp_in hd (h K hK)
theorem set_two {own objs : List Res} {A B A' B' g : Res} : (((own ++ [A, B] ++ objs) ++ [g]).set (own.length + 1) B').set own.length A' = (own ++ [A', B'] ++ objs) ++ [g] := by
  simp [List.set_append]
theorem Lies.one_ {x : Int} {T : Nat → Prop} {w0 w : World} {rs : List Res} {g : Nat} (h : InvT T w0 (rs ++ [.box g 3 (Value.int .i64 x).cells]) w) (x' : Int) (e : x' = x := by rfl) : Lies encI 1 w (g + 1) (some ⟨g, 0, none⟩) [x'] := by
  subst e
  exact h.lies1 (i := rs.length) (enc := encI) (size := 1) (by rw [List.getElem?_append_right (Nat.le_refl _), Nat.sub_self]; rfl) _ (fun j hj => by simp [encI, Value.cells])
def RetInts (w : World) (xs : List Int) (e : Int) : Ending → World → Prop := fun ed w' => ∃ A cp, ed = .returned (.tuple #[.slice A xs.length cp, .int .i64 e]) ∧ Lies encI 1 w' w'.heap.size A xs ∧ Below w.heap.size w w'
theorem c_places_no (mc : Array Value) (m : Mach) (fuel : Int) (w : World) (hm : MachV w w.heap.size mc m) (e : Int) (he : (if inR fuel 0 5000 = false then 1 else machE m) = e) (h0 : ¬ e = 0) :
    Calls Tryz.prog 18 #[.agg mc, .int .i64 fuel] w (RetInts w [] e) := by
  have HM := Lib.hid hm
  have hsz := hm.size
  have HC := Lib.hid (fun w h => he ▸ c_run_check mc m fuel w h)
  have h1 : (e != 0) = true := by simpa using h0
  clear hm he
  go_enter Tryz.func18, Tryz.ntmps18
  have hI := Inv.start w
  go_wp2_with (first | (refine listI rfl fun K hK => wpI_box _ _ rfl hI rfl fun gx w' hI' hb => hK _ _ ?_; clear hK K; (try clear hb); replace hI := hI'; clear hI'; replace cF := hI.facts; (try simp only [mm, Act.put, Act.eval] at hI cF)) | (refine listI rfl fun K hK => wpI_box1 _ _ rfl hI rfl rfl fun gx w' hI' hb => hK _ _ ?_; clear hK K; (try clear hb); replace hI := hI'; clear hI'; replace cF := hI.facts; (try simp only [mm, Act.put, Act.eval] at hI cF)) | (refine wpList_load_box rfl 31 _ rfl (hI.box (i := 0) rfl) rfl Tryz.underlying31 rfl (by first | exact info_mach (by assumption) | (simp only [hsz1]; kernel_rfl) | (simp only [hsz2]; kernel_rfl) | (simp only [hsz]; kernel_rfl) | kernel_rfl) ?_) | (go_at_call 36; (with_reducible refine (HC.out _ (hI.mach HM.out)).mono ?_); intro e w' hr; obtain ⟨rfl, hb⟩ := hr; have hI' := hI.on hb; (try clear hb); replace hI := hI'; clear hI'; replace cF := hI.facts; (try simp only [mm, Act.put, Act.eval] at hI cF)) | fail)
  go_returns
  exact ⟨none, 0, rfl, fun h => absurd rfl h, hI.below⟩
set_option maxHeartbeats 4000000 in
theorem c_places_ok (mc : Array Value) (m : Mach) (fuel : Int) (w : World) (hm : MachV w w.heap.size mc m) (hE : Env w) (hf : inR fuel 0 5000 = true) (h0 : (machE m != 0) = false) :
    Calls Tryz.prog 18 #[.agg mc, .int .i64 fuel] w (RetInts w (placesN m fuel.toNat) 0) := by
  have HM := Lib.hid hm
  have hsz := hm.size
  have HE := Lib.hid hE
  have HOK := Lib.hid (machE_ok h0)
  have HC := Lib.hid (fun w h => (show (if inR fuel 0 5000 = false then 1 else machE m) = 0 by rw [hf]; simpa using h0) ▸ c_run_check mc m fuel w h)
  obtain ⟨f, rfl⟩ : ∃ f : Nat, fuel = f := ⟨fuel.toNat, by have := inR_iff.1 hf; omega⟩
  have hf5 : f ≤ 5000 := by have := inR_iff.1 hf; omega
  rw [Int.toNat_natCast]
  clear hm hE hf h0
  refine (callsIn_wide (n := 6)).1 ?_
  refine callsIn_of_wp_marks Tryz.func18 rfl trivial ?_ rfl
  refine wpIn_wide.2 ?_
  simp only [Tryz.ntmps18, List.size_toArray, List.length_cons, List.length_nil, Nat.reduceAdd, Nat.reduceSub, Array.replicate_succ, Array.replicate_zero, List.push_toArray, List.append_toArray, List.nil_append, List.cons_append]
  have hI := Inv.start w
  go_wp2_with (first
    | ((first | (refine listI rfl fun K hK => wpI_box _ _ rfl hI rfl fun gx w' hI' hb => hK _ _ ?_; clear hK K; (try clear hb); replace hI := hI'; clear hI'; replace cF := hI.facts; (try simp only [mm, Act.put, Act.eval] at hI cF)) | (refine listI rfl fun K hK => wpI_box1 _ _ rfl hI rfl rfl fun gx w' hI' hb => hK _ _ ?_; clear hK K; (try clear hb); replace hI := hI'; clear hI'; replace cF := hI.facts; (try simp only [mm, Act.put, Act.eval] at hI cF))); obtain ⟨gm, rfl⟩ : ∃ y, y = gx := ⟨_, rfl⟩) | (refine wpList_load_box rfl 31 _ rfl (hI.box (i := 0) rfl) rfl Tryz.underlying31 rfl (by first | exact info_mach (by assumption) | (simp only [hsz1]; kernel_rfl) | (simp only [hsz2]; kernel_rfl) | (simp only [hsz]; kernel_rfl) | kernel_rfl) ?_) | (go_at_call 36; (with_reducible refine (HC.out _ (hI.mach HM.out)).mono ?_); intro e w' hr; obtain ⟨rfl, hb⟩ := hr; have hI' := hI.on hb; (try clear hb); replace hI := hI'; clear hI'; replace cF := hI.facts; (try simp only [mm, Act.put, Act.eval] at hI cF))
    | (go_at_call 28; refine (c_step_Copied mc m _ (hI.mach HM.out) HOK.out.len HOK.out.deep HOK.out.outs).mono ?_; rintro e w' ⟨mc', rfl, hO, hb⟩; have h8 := hO.regs; obtain ⟨va, vs, vo, rfl, hI'⟩ := hI.machO hb hO; clear hO; (try clear hb); replace hI := hI'; clear hI'; replace cF := hI.facts; (try simp only [mm, Act.put, Act.eval] at hI cF))
    | (refine listI rfl fun K hK => wpI_storeW _ _ _ rfl hI rfl 0 rfl rfl (by rw [hsz, List.size_toArray, machL_length h8]) (info_mach h8) (machL_one h8 (hI.one (i := 1) rfl) (hI.one (i := 2) rfl) (hI.one (i := 3) rfl)) fun w' hI' => hK _ _ ?_; clear hK K; (try clear hb); replace hI := hI'; clear hI'; replace cF := hI.facts; (try simp only [mm, Act.put, Act.eval] at hI cF))
    | ((refine listI rfl fun K hK => wpI_alloc 32 rfl hI Tryz.zeroValue32 (cs := #[.int .i64 0]) (by first | rfl | kernel_rfl) fun gx w' hI' hb => hK _ _ ?_; clear hK K; (try clear hb); replace hI := hI'; clear hI'; replace cF := hI.facts; (try simp only [mm, Act.put, Act.eval] at hI cF)); obtain ⟨gw, rfl⟩ : ∃ y, y = gx := ⟨_, rfl⟩) | ((refine listI rfl fun K hK => wpI_alloc 29 rfl hI Tryz.zeroValue29 (cs := #[.slice none 0 0]) (by first | rfl | kernel_rfl) fun gx w' hI' hb => hK _ _ ?_; clear hK K; (try clear hb); replace hI := hI'; clear hI'; replace cF := hI.facts; (try simp only [mm, Act.put, Act.eval] at hI cF)); obtain ⟨go_, rfl⟩ : ∃ y, y = gx := ⟨_, rfl⟩)
    | (go_at_call 37; refine (c_run_steps _ _ _ _).mono ?_; rintro e w' ⟨gp, gf, gq, rfl, hI2⟩; have hb := hI2.below; have hI' := hI.join' hI2; clear hI2; (try clear hb); replace hI := hI'; clear hI'; replace cF := hI.facts; (try simp only [mm, Act.put, Act.eval] at hI cF))
    | fail)
  have hI1 := (hI.nilrow 3 1).sel [0, 1, 2, 3, 4, 7, 6, 8, 5, 9] (itR gm gw gf gp gq va vs vo m 0 f ++ [.box go_ 29 #[.slice none 0 0], .row 3 1 (.slice none 0 0) 0 []]) (by decide) rfl
  clear hI cF
  refine (wpIn_wide (n := 6)).1 ?_
  refine wpIn_rangeFunc_res (n := 6) rfl (by omega) (gf := 68) (lb := #[.pointer (some ⟨gf, 0, none⟩), .pointer (some ⟨gp, 0, none⟩), .pointer (some ⟨gq, 0, none⟩)]) rfl trivial (enters_of Tryz.func68 (by kernel_rfl) rfl) (run_seq 5 (by omega) w HE.out gm gw gf gp gq m HOK.out h8 f hf5 va vs vo 0) (fun _ => rfl)
    (fun k rsB => ∃ v, rsB = [.box go_ 29 #[v], .row 3 1 v ((placesN m f).take k).length (((placesN m f).take k).flatMap encI)]) ⟨_, rfl⟩ hI1 ?a1 ?assign ?body ?done
  case assign =>
    intro l x W K hK
    gi_wp2
    exact hK
  case body =>
    rintro l k x own rsB objs W hx ⟨v, rfl⟩ hI
    have hkl := (List.getElem?_eq_some_iff.1 hx).1
    have hk5 : k < 5000 := by have := placesN_len m f; omega
    obtain ⟨xs, hxs⟩ : ∃ xs, (placesN m f).take k = xs := ⟨_, rfl⟩
    have hxl : xs.length = k := by rw [← hxs, List.length_take]; omega
    have hxt : (placesN m f).take (k + 1) = xs ++ [x] := by rw [List.take_add_one, hx, hxs]; rfl
    rw [hxs] at hI
    rw [hxt]
    have hi0 : (own ++ [Res.box go_ 29 #[v], Res.row 3 1 v xs.length (xs.flatMap encI)] ++ objs)[own.length]? = some (.box go_ 29 #[v]) := by
      rw [List.append_assoc, List.getElem?_append_right (Nat.le_refl _), Nat.sub_self]; rfl
    have hi1 : (own ++ [Res.box go_ 29 #[v], Res.row 3 1 v xs.length (xs.flatMap encI)] ++ objs)[own.length + 1]? = some (.row 3 1 v xs.length (xs.flatMap encI)) := by
      rw [List.append_assoc, List.getElem?_append_right (by omega), Nat.add_sub_cancel_left]; rfl
    have c0 := hI.cell hi0
    have hlen : own.length + 1 < (own ++ [Res.box go_ 29 #[v], Res.row 3 1 v xs.length (xs.flatMap encI)] ++ objs).length := getElem?_lt hi1
    gi_wp2_with (first
      | (refine listN rfl (fun c h => by cases h) fun K hK => wpI_slice1 29 3 _ rfl hI Tryz.underlying29 rfl (size := 1) (by kernel_rfl) rfl fun gl w2 hI2 hb => hK _ _ ?_; clear hK K; have c2 := fun o => (hb.cell (p := ⟨go_, o, none⟩) (hI.lt hi0 rfl)).trans (c0 o); clear c0)
      | (refine listN rfl (fun c h => by cases h) fun K hK => wpI_app (t := 29) _ _ rfl el_I hI2 (own.length + 1) rfl ((List.getElem?_append_left hlen).trans hi1) rfl (Lies.one_ hI2 x) rfl (by unfold maxLen; simp only [List.length_cons, List.length_nil]; omega) (by simp only [List.length_cons, List.length_nil]; omega) fun v' w3 hI3 => hK _ _ ?_; clear hK K)
      | (refine listN rfl (fun c h => by cases h) fun K hK => wpI_store1 _ _ _ rfl hI3 rfl own.length (by rw [List.getElem?_set_ne (by omega), List.getElem?_append_left (by omega)]; exact hi0) rfl (hI3.one (i := own.length + 1) (List.getElem?_set_self (by rw [List.length_append]; omega))) (by simp) (by kernel_rfl) fun w4 hI4 => hK _ _ ?_; clear hK K)
      | fail)
    rw [set_two] at hI4
    have h5 := hI4.first (own ++ [_, _] ++ objs) [_] rfl
    refine ⟨[.box go_ 29 #[v'], .row 3 1 v' (k + 1) (xs.flatMap encI ++ encI x)], ⟨v', rfl⟩, h5.cast ?_⟩
    simp [hxl, List.flatMap_append, Act.put, Act.eval]
  case done =>
    rintro D N own' rsB o W ⟨rfl, h8', va', vs', vo', rfl⟩ ⟨v, rfl⟩ hI
    rename_i K1 hK1
    change K1 _ W
    refine hK1 _ W ?_
    clear hK1 K1 HC HE HOK HM
    rw [List.take_length] at hI
    unfold itR mR at hI
    simp only [List.cons_append, List.nil_append] at hI
    obtain ⟨Av, cv, hv⟩ := (hI.own0 (enc := encI) (xs := placesN m f) (size := 1) (i := 9) rfl).form
    subst hv
    have cF := hI.facts
    (try simp only [mm] at cF)
    go_wp2_with fail
    have hI3 := hI.putObj (i := 10) rfl (.deferred none)
    refine ⟨by simp, .inl ⟨_, _, rfl, run_takeDeferred (hI.ok 10 _ rfl), ?_⟩⟩
    refine ⟨.tuple #[.slice Av (placesN m f).length cv, .int .i64 0], by simp [results, Tryz.results18, go_sem]; try rfl, ?_⟩
    exact ⟨Av, cv, rfl, (InvT.own0 (enc := encI) (xs := placesN m f) (size := 1) hI3 (i := 9) rfl).liesB (fun _ => rfl) rfl, hI3.below⟩
end Go.Proofs.YthmpnnfejghhfaaGreatDoor
