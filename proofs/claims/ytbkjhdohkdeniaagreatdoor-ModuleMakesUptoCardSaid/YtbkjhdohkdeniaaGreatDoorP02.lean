/- What the parts say: The readings of the arguments: what can be read as a key, a value, a piece or a row of these holds their numbers. Conditions: none. -/
import Derived.Test.YtbkjhdohkdeniaaGreatDoorP01
import Derived.ProofKit
import Derived.OpenShut
import Derived.Deep.Slices
set_option linter.unusedVariables false
set_option linter.unusedSimpArgs false
namespace Go.Proofs.YtbkjhdohkdeniaaGreatDoor
open Go.ChangeShapes Go.WideShapes Go.RowKit
set_option maxRecDepth 100000

theorem cells_int : Tryz.prog.cellsOf 3 = 1 := by kernel_rfl
theorem i64_of_wf {n : Int} (h : (Lit.int .i64 n).wf = true) : i64 n := by
  simpa [Lit.wf, IntKind.min, IntKind.max, IntKind.signed, IntKind.bits, i64] using h

section
variable {H : Type} {enc : TypeId × Value → H} {w : World} {base : Nat} {sp : Nat → Bool} {held : Bool}
theorem some_at {α : Type} {l : List α} {n i : Nat} (h : l.length = n) (hi : i < n) : ∃ y, l[i]? = some y :=
  ⟨l[i]'(by omega), List.getElem?_eq_getElem (by omega)⟩
theorem field_at {fs : Array Field} {n : Nat} {cs : List Value} {xs : List (DataW H × List MemPlace)} (hf : ∀ (i : Nat) (f : Field), fs[i]? = some f → DataW.trod enc Tryz.prog w base sp held n f.type ((cs.drop f.offset).take (Tryz.prog.cellsOf f.type)) = xs[i]?)
    {i : Nat} {f : Field} {t : TypeId} {o c : Nat} {y : DataW H × List MemPlace} (hi : fs[i]? = some f) (ht : f.type = t) (ho : f.offset = o) (hc : Tryz.prog.cellsOf t = c) (hy : xs[i]? = some y) :
    DataW.trod enc Tryz.prog w base sp held n t ((cs.drop o).take c) = some y := by
  have h := hf i f hi
  rw [ht, ho, hc, hy] at h
  exact h
end
end Go.Proofs.YtbkjhdohkdeniaaGreatDoor
namespace Go.Proofs.YtbkjhdohkdeniaaGreatDoor
open Go.ChangeShapes Go.WideShapes Go.RowKit Go.Deep
set_option maxRecDepth 100000

def Lies {α : Type} (enc : α → List Value) (size : Nat) (w : World) (B : Nat) (A : Option Addr) (xs : List α) : Prop :=
  xs ≠ [] → ∃ b o, A = some ⟨b, o, none⟩ ∧ b < B ∧ ∀ i x, xs[i]? = some x → ∀ j, j < size → w.cell? ⟨b, o + i * size + j, none⟩ = (enc x)[j]?
section
variable {α : Type} {enc : α → List Value} {size : Nat} {w w' : World} {B : Nat} {A : Option Addr} {xs : List α}
theorem Lies.nil_ : Lies enc size w B A [] := fun h => absurd rfl h
theorem Lies.at_ (h : Lies enc size w B A xs) {k : Nat} (hk : k < xs.length) : ∃ b o x, A = some ⟨b, o, none⟩ ∧ b < B ∧ xs[k]? = some x ∧ ∀ j, j < size → w.cell? ⟨b, o + k * size + j, none⟩ = (enc x)[j]? := by
  obtain ⟨b, o, hA, hb, hc⟩ := h (by rintro rfl; simp at hk)
  have hx : xs[k]? = some xs[k] := List.getElem?_eq_getElem hk
  exact ⟨b, o, _, hA, hb, hx, hc k _ hx⟩
theorem Lies.keep (h : Lies enc size w B A xs) (hk : ∀ p : Addr, p.block < B → w'.cell? p = w.cell? p) : Lies enc size w' B A xs := fun hn => by
  obtain ⟨b, o, hA, hb, hc⟩ := h hn
  exact ⟨b, o, hA, hb, fun i x hx j hj => (hk _ hb).trans (hc i x hx j hj)⟩
theorem Lies.below (h : Lies enc size w B A xs) (hb : Below B w w') : Lies enc size w' B A xs := h.keep fun _ hp => hb.cell hp
theorem Lies.more {B' : Nat} (h : Lies enc size w B A xs) (hB : B ≤ B') : Lies enc size w B' A xs := fun hn => by
  obtain ⟨b, o, hA, hb, hc⟩ := h hn
  exact ⟨b, o, hA, by omega, hc⟩
end
theorem Lies.single {α : Type} {enc : α → List Value} {size : Nat} (w : World) (cs : Array Value) (t : TypeId) (x : α) (h : ∀ j, j < size → cs[j]? = (enc x)[j]?) : Lies enc size (w.alloc (.cells cs t)) (w.alloc (.cells cs t)).heap.size (some ⟨w.heap.size, 0, none⟩) [x] := fun _ => by
  refine ⟨w.heap.size, 0, rfl, by simp [World.size_alloc], fun i y hy j hj => ?_⟩
  match i, hy with
  | 0, hy =>
    cases hy
    rw [World.cell?_alloc_at cs t _ _ rfl, ← h j hj]
    congr 1
    omega
theorem exists_list {α : Type} {p : Nat → α → Prop} : ∀ n, (∀ i, i < n → ∃ x, p i x) → ∃ xs : List α, xs.length = n ∧ ∀ i x, xs[i]? = some x → p i x := by
  intro n
  induction n with
  | zero => intro _; exact ⟨[], rfl, fun i x h => by simp at h⟩
  | succ n ih =>
    intro h
    obtain ⟨xs, hl, hx⟩ := ih fun i hi => h i (by omega)
    obtain ⟨y, hy⟩ := h n (by omega)
    refine ⟨xs ++ [y], by simp [hl], fun i x hi => ?_⟩
    rcases Nat.lt_or_ge i n with hlt | hge
    · rw [List.getElem?_append_left (by omega)] at hi
      exact hx i x hi
    · rw [List.getElem?_append_right (by omega)] at hi
      have hi0 : i - xs.length = 0 := by
        have := (List.getElem?_eq_some_iff.1 hi).1
        simp at this
        omega
      rw [hi0] at hi
      obtain rfl : i = n := by omega
      simp at hi
      exact hi ▸ hy
theorem cell_lt {w : World} {a : Addr} {v : Value} (h : w.cell? a = some v) : a.block < w.heap.size ∧ a.spot = none := by
  unfold World.cell? at h
  rcases hb : w.heap[a.block]? with _ | o
  · rw [hb] at h; cases h
  · refine ⟨(Array.getElem?_eq_some_iff.1 hb).1, ?_⟩
    rw [hb] at h
    cases o <;> simp only at h <;> try cases h
    split at h
    · cases h
    · rename_i hs; simpa using hs
section
variable {H : Type} {encH : TypeId × Value → H} {w : World} {base : Nat} {sp : Nat → Bool} {held : Bool}
theorem rows_of_cs {α : Type} {enc : α → List Value} {Wf : α → Prop} {size : Nat} {t e : TypeId} {fuel : Nat} {cs : List Value} {x : DataW H × List MemPlace} (ht : Tryz.prog.underlying t = some (.slice e)) (hsz : Tryz.prog.cellsOf e = size) (hpos : 0 < size)
    (hel : ∀ {fuel : Nat} {cs : List Value} {y : DataW H × List MemPlace}, DataW.trod encH Tryz.prog w base sp held fuel e cs = some y → ∃ k : α, Wf k ∧ cs = enc k) (hlen : ∀ k, (enc k).length = size)
    (h : DataW.trod encH Tryz.prog w base sp held fuel t cs = some x) : ∃ (A : Option Addr) (c : Nat) (xs : List α), cs = [.slice A xs.length c] ∧ xs.length ≤ c ∧ c ≤ maxLen ∧ (∀ (i : Nat) k, xs[i]? = some k → Wf k) ∧ Lies enc size w w.heap.size A xs := by
  rcases open_slice ht h with ⟨rfl, _⟩ | ⟨a, len, cap, m, n, D, Pl, rfl, hb, hl, hm, hmm, hx, hi⟩
  · exact ⟨none, 0, [], rfl, by simp, by simp [maxLen], fun i k hk => by simp at hk, Lies.nil_⟩
  · have hlm : len ≤ m := by rw [hmm]; split <;> omega
    obtain ⟨xs, hxl, hxs⟩ := exists_list (α := α) (p := fun i k => Wf k ∧ w.cells? base (a.add (i * size)) size = some (enc k)) len fun i hlt => by
      obtain ⟨cs', h1, h2⟩ := hi i (by omega)
      obtain ⟨k, hk, rfl⟩ := hel h2
      rw [hsz] at h1
      exact ⟨k, hk, h1⟩
    refine ⟨some a, cap, xs, by rw [hxl], by omega, hm, fun i k hk => (hxs i k hk).1, fun hne => ?_⟩
    have h0 : 0 < xs.length := List.length_pos_iff.2 hne
    have e0 : xs[0]? = some xs[0] := List.getElem?_eq_getElem h0
    obtain ⟨_, _, hat⟩ := World.cells?_some (hxs 0 _ e0).2
    have hc0 := hat 0 hpos
    rw [Nat.zero_mul, Addr.add_zero', Addr.add_zero', List.getElem?_eq_getElem (by rw [hlen]; exact hpos)] at hc0
    obtain ⟨hblk, hspot⟩ := cell_lt hc0
    obtain ⟨b, o, s⟩ := a
    obtain rfl : s = none := hspot
    refine ⟨b, o, rfl, hblk, fun i k hk j hj => ?_⟩
    obtain ⟨_, _, hat⟩ := World.cells?_some (hxs i k hk).2
    have := hat j hj
    rw [Addr.add_lit, Addr.add_lit] at this
    exact this
theorem open_rows {α : Type} {enc : α → List Value} {Wf : α → Prop} {size : Nat} {r : Reach} {b0 : Nat} {t e : TypeId} {v : Value} {d : DataW H} {ps : List MemPlace} (ht : Tryz.prog.underlying t = some (.slice e)) (hsz : Tryz.prog.cellsOf e = size) (hpos : 0 < size)
    (hel : ∀ {fuel : Nat} {cs : List Value} {y : DataW H × List MemPlace}, DataW.trod encH Tryz.prog w base sp held fuel e cs = some y → ∃ k : α, Wf k ∧ cs = enc k) (hlen : ∀ k, (enc k).length = size)
    (hval : Value.okWide Tryz.prog w r b0 t v) (h : DataW.Trod encH Tryz.prog w base sp held t v d ps) : ∃ (A : Option Addr) (c : Nat) (xs : List α), v = .slice A xs.length c ∧ xs.length ≤ c ∧ c ≤ maxLen ∧ (∀ (i : Nat) k, xs[i]? = some k → Wf k) ∧ Lies enc size w w.heap.size A xs := by
  obtain ⟨fuel, hf⟩ := h
  obtain ⟨A, c, xs, hcs, h1, h2, h3, h4⟩ := rows_of_cs ht hsz hpos hel hlen hf
  refine ⟨A, c, xs, ?_, h1, h2, h3, h4⟩
  obtain ⟨a, len, cap, rfl⟩ := okWide_slice ht hval
  simpa [Value.cells] using hcs
end
structure Piece where
  base : Int
  len : Int
  state : Int
theorem Piece.ext_iff' {a b : Piece} : (a.base = b.base ∧ a.len = b.len ∧ a.state = b.state) ↔ a = b := by
  constructor
  · rintro ⟨h1, h2, h3⟩
    cases a; cases b; simp_all
  · rintro rfl; exact ⟨rfl, rfl, rfl⟩
instance : DecidableEq Piece := fun a b => decidable_of_iff (a.base = b.base ∧ a.len = b.len ∧ a.state = b.state) Piece.ext_iff'
structure Piece.Wf (k : Piece) : Prop where
  base : i64 k.base
  len : i64 k.len
  state : i64 k.state
def encV (v : Val) : List Value := [.bool v.is, .int .i64 v.n, .int .i64 v.key.perm, .int .i64 v.key.base, .int .i64 v.key.len, .int .i64 v.key.pos, .int .i64 v.key.tag]
end Go.Proofs.YtbkjhdohkdeniaaGreatDoor
namespace Go.Proofs.YtbkjhdohkdeniaaGreatDoor
open Go.ChangeShapes Go.WideShapes Go.RowKit Go.Deep
set_option maxRecDepth 100000
structure Inst where
  op : Int
  a : Int
  b : Int
  c : Int
theorem Inst.ext_iff' {a b : Inst} : (a.op = b.op ∧ a.a = b.a ∧ a.b = b.b ∧ a.c = b.c) ↔ a = b := by
  constructor
  · rintro ⟨h0, h1, h2, h3⟩
    cases a; cases b; simp_all
  · rintro rfl; exact ⟨rfl, rfl, rfl, rfl⟩
instance : DecidableEq Inst := fun a b => decidable_of_iff (a.op = b.op ∧ a.a = b.a ∧ a.b = b.b ∧ a.c = b.c) Inst.ext_iff'
structure Inst.Wf (k : Inst) : Prop where
  op : i64 k.op
  a : i64 k.a
  b : i64 k.b
  c : i64 k.c
section
variable {H : Type} {enc : TypeId × Value → H} {w : World} {base : Nat} {sp : Nat → Bool} {held : Bool}
end
def shapeN (op : Int) : Bool × Bool × Int :=
  if op = 0 ∨ op = 19 then (false, false, 0) else if op = 20 ∨ op = 22 then (true, false, 0) else if op = 1 ∨ op = 9 then (true, false, 1) else if op = 2 ∨ op = 18 then (true, true, 0)
  else if op = 8 then (false, false, 1) else if op = 21 then (false, false, 5) else if op = 10 ∨ op = 11 then (true, true, 1) else if op = 14 then (true, true, 3) else if op = 17 then (true, true, 4) else (true, true, 2)
def lowC (c : Int) : Int := if c = 1 then -2048 else 0
def highC (c : Int) : Int := if c = 1 then 2047 else if c = 2 then 7 else if c = 3 then 127 else if c = 4 then 5 else if c = 5 then 255 else 0
def regB (n : Int) (has : Bool) : Bool := if has = true then inR n 0 7 else n == 0
def instOk (i : Inst) : Bool := inR i.op 0 22 && regB i.a (shapeN i.op).1 && regB i.b (shapeN i.op).2.1 && inR i.c (lowC (shapeN i.op).2.2) (highC (shapeN i.op).2.2)
def instE (i : Inst) : Int := if instOk i = true then 0 else 1
def packF (i : Inst) : Int × Int := if instOk i = true then (i.op + i.a * 32 + i.b * 256 + (i.c + 2048) * 2048, 0) else (0, 1)
def instZ : Inst := ⟨0, 0, 0, 0⟩
def cByte (c : Int) : Int := if c = 1 then 110 else if c = 2 then 114 else if c = 3 then 112 else if c = 4 then 113 else if c = 5 then 109 else 0
def words : ByteArray := ⟨#[104, 97, 108, 116, 32, 115, 101, 116, 32, 99, 111, 112, 121, 32, 97, 100, 100, 32, 115, 117, 98, 32, 109, 117, 108, 32, 100, 105, 118, 32, 108, 101, 115, 115, 32, 106, 117, 109, 112, 32, 105, 102, 32, 108, 111, 97, 100, 32, 115, 116, 111, 114, 101, 32, 109, 111, 118, 101, 32, 110, 97, 114, 114, 111, 119, 32, 100, 114, 111, 112, 32, 115, 101, 97, 108, 32, 111, 112, 101, 110, 32, 97, 115, 107, 32, 99, 97, 108, 108, 32, 98, 97, 99, 107, 32, 104, 101, 114, 101, 32, 99, 108, 101, 97, 114, 32, 116, 101, 108, 108]⟩
def wordL : List ByteArray := [⟨#[104, 97, 108, 116]⟩, ⟨#[115, 101, 116]⟩, ⟨#[99, 111, 112, 121]⟩, ⟨#[97, 100, 100]⟩, ⟨#[115, 117, 98]⟩, ⟨#[109, 117, 108]⟩, ⟨#[100, 105, 118]⟩, ⟨#[108, 101, 115, 115]⟩, ⟨#[106, 117, 109, 112]⟩, ⟨#[105, 102]⟩, ⟨#[108, 111, 97, 100]⟩, ⟨#[115, 116, 111, 114, 101]⟩, ⟨#[109, 111, 118, 101]⟩, ⟨#[110, 97, 114, 114, 111, 119]⟩, ⟨#[100, 114, 111, 112]⟩, ⟨#[115, 101, 97, 108]⟩, ⟨#[111, 112, 101, 110]⟩, ⟨#[97, 115, 107]⟩, ⟨#[99, 97, 108, 108]⟩, ⟨#[98, 97, 99, 107]⟩, ⟨#[104, 101, 114, 101]⟩, ⟨#[99, 108, 101, 97, 114]⟩, ⟨#[116, 101, 108, 108]⟩]
def wordOf (op : Int) : ByteArray := wordL.getD op.toNat ⟨#[]⟩
def tableB : ByteArray := ⟨#[104, 97, 108, 116, 59, 115, 101, 116, 32, 65, 32, 110, 59, 99, 111, 112, 121, 32, 65, 32, 66, 59, 97, 100, 100, 32, 65, 32, 66, 32, 114, 59, 115, 117, 98, 32, 65, 32, 66, 32, 114, 59, 109, 117, 108, 32, 65, 32, 66, 32, 114, 59, 100, 105, 118, 32, 65, 32, 66, 32, 114, 59, 108, 101, 115, 115, 32, 65, 32, 66, 32, 114, 59, 106, 117, 109, 112, 32, 110, 59, 105, 102, 32, 65, 32, 110, 59, 108, 111, 97, 100, 32, 65, 32, 66, 32, 110, 59, 115, 116, 111, 114, 101, 32, 65, 32, 66, 32, 110, 59, 109, 111, 118, 101, 32, 65, 32, 66, 32, 114, 59, 110, 97, 114, 114, 111, 119, 32, 65, 32, 66, 32, 114, 59, 100, 114, 111, 112, 32, 65, 32, 66, 32, 112, 59, 115, 101, 97, 108, 32, 65, 32, 66, 32, 114, 59, 111, 112, 101, 110, 32, 65, 32, 66, 32, 114, 59, 97, 115, 107, 32, 65, 32, 66, 32, 113, 59, 99, 97, 108, 108, 32, 65, 32, 66, 59, 98, 97, 99, 107, 59, 104, 101, 114, 101, 32, 65, 59, 99, 108, 101, 97, 114, 32, 109, 59, 116, 101, 108, 108, 32, 65]⟩
def tableL : List ByteArray := [⟨#[104, 97, 108, 116]⟩, ⟨#[115, 101, 116, 32, 65, 32, 110]⟩, ⟨#[99, 111, 112, 121, 32, 65, 32, 66]⟩, ⟨#[97, 100, 100, 32, 65, 32, 66, 32, 114]⟩, ⟨#[115, 117, 98, 32, 65, 32, 66, 32, 114]⟩, ⟨#[109, 117, 108, 32, 65, 32, 66, 32, 114]⟩, ⟨#[100, 105, 118, 32, 65, 32, 66, 32, 114]⟩, ⟨#[108, 101, 115, 115, 32, 65, 32, 66, 32, 114]⟩, ⟨#[106, 117, 109, 112, 32, 110]⟩, ⟨#[105, 102, 32, 65, 32, 110]⟩, ⟨#[108, 111, 97, 100, 32, 65, 32, 66, 32, 110]⟩, ⟨#[115, 116, 111, 114, 101, 32, 65, 32, 66, 32, 110]⟩, ⟨#[109, 111, 118, 101, 32, 65, 32, 66, 32, 114]⟩, ⟨#[110, 97, 114, 114, 111, 119, 32, 65, 32, 66, 32, 114]⟩, ⟨#[100, 114, 111, 112, 32, 65, 32, 66, 32, 112]⟩, ⟨#[115, 101, 97, 108, 32, 65, 32, 66, 32, 114]⟩, ⟨#[111, 112, 101, 110, 32, 65, 32, 66, 32, 114]⟩, ⟨#[97, 115, 107, 32, 65, 32, 66, 32, 113]⟩, ⟨#[99, 97, 108, 108, 32, 65, 32, 66]⟩, ⟨#[98, 97, 99, 107]⟩, ⟨#[104, 101, 114, 101, 32, 65]⟩, ⟨#[99, 108, 101, 97, 114, 32, 109]⟩, ⟨#[116, 101, 108, 108, 32, 65]⟩]
def partsL : List (List ByteArray) := [[⟨#[104, 97, 108, 116]⟩], [⟨#[115, 101, 116]⟩, ⟨#[65]⟩, ⟨#[110]⟩], [⟨#[99, 111, 112, 121]⟩, ⟨#[65]⟩, ⟨#[66]⟩], [⟨#[97, 100, 100]⟩, ⟨#[65]⟩, ⟨#[66]⟩, ⟨#[114]⟩], [⟨#[115, 117, 98]⟩, ⟨#[65]⟩, ⟨#[66]⟩, ⟨#[114]⟩], [⟨#[109, 117, 108]⟩, ⟨#[65]⟩, ⟨#[66]⟩, ⟨#[114]⟩], [⟨#[100, 105, 118]⟩, ⟨#[65]⟩, ⟨#[66]⟩, ⟨#[114]⟩], [⟨#[108, 101, 115, 115]⟩, ⟨#[65]⟩, ⟨#[66]⟩, ⟨#[114]⟩], [⟨#[106, 117, 109, 112]⟩, ⟨#[110]⟩], [⟨#[105, 102]⟩, ⟨#[65]⟩, ⟨#[110]⟩], [⟨#[108, 111, 97, 100]⟩, ⟨#[65]⟩, ⟨#[66]⟩, ⟨#[110]⟩], [⟨#[115, 116, 111, 114, 101]⟩, ⟨#[65]⟩, ⟨#[66]⟩, ⟨#[110]⟩], [⟨#[109, 111, 118, 101]⟩, ⟨#[65]⟩, ⟨#[66]⟩, ⟨#[114]⟩], [⟨#[110, 97, 114, 114, 111, 119]⟩, ⟨#[65]⟩, ⟨#[66]⟩, ⟨#[114]⟩], [⟨#[100, 114, 111, 112]⟩, ⟨#[65]⟩, ⟨#[66]⟩, ⟨#[112]⟩], [⟨#[115, 101, 97, 108]⟩, ⟨#[65]⟩, ⟨#[66]⟩, ⟨#[114]⟩], [⟨#[111, 112, 101, 110]⟩, ⟨#[65]⟩, ⟨#[66]⟩, ⟨#[114]⟩], [⟨#[97, 115, 107]⟩, ⟨#[65]⟩, ⟨#[66]⟩, ⟨#[113]⟩], [⟨#[99, 97, 108, 108]⟩, ⟨#[65]⟩, ⟨#[66]⟩], [⟨#[98, 97, 99, 107]⟩], [⟨#[104, 101, 114, 101]⟩, ⟨#[65]⟩], [⟨#[99, 108, 101, 97, 114]⟩, ⟨#[109]⟩], [⟨#[116, 101, 108, 108]⟩, ⟨#[65]⟩]]
end Go.Proofs.YtbkjhdohkdeniaaGreatDoor
