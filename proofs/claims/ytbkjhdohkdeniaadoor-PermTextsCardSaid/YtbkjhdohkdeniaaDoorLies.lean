/- Slices of structs: what lies where, kept over calls, and the readings of the arguments. Conditions: none. -/
import Derived.Test.YtbkjhdohkdeniaaDoorOpen
import Derived.Test.YtbkjhdohkdeniaaDoorKept
namespace Go.Proofs.YtbkjhdohkdeniaaDoor
open Go.ChangeShapes Go.WideShapes Go.RowKit Go.Deep
set_option linter.unusedVariables false
set_option linter.unusedSimpArgs false
set_option maxRecDepth 100000

/-- the elements xs lie behind A, each as its 'size' cells, below block B -/
def Lies {α : Type} (enc : α → List Value) (size : Nat) (w : World) (B : Nat) (A : Option Addr) (xs : List α) : Prop :=
  xs ≠ [] → ∃ b o, A = some ⟨b, o, none⟩ ∧ b < B ∧ ∀ i x, xs[i]? = some x → ∀ j, j < size → w.cell? ⟨b, o + i * size + j, none⟩ = (enc x)[j]?
section
variable {α : Type} {enc : α → List Value} {size : Nat} {w w' : World} {B : Nat} {A : Option Addr} {xs : List α}
theorem Lies.nil_ : Lies enc size w B A [] := fun h => absurd rfl h
theorem Lies.at_ (h : Lies enc size w B A xs) {k : Nat} (hk : k < xs.length) : ∃ b o x, A = some ⟨b, o, none⟩ ∧ b < B ∧ xs[k]? = some x ∧ ∀ j, j < size → w.cell? ⟨b, o + k * size + j, none⟩ = (enc x)[j]? := by
  obtain ⟨b, o, hA, hb, hc⟩ := h (by rintro rfl; simp at hk)
  have hx : xs[k]? = some xs[k] := List.getElem?_eq_getElem hk
  exact ⟨b, o, _, hA, hb, hx, hc k _ hx⟩
theorem Lies.keep (h : Lies enc size w B A xs) (hk : ∀ p : Addr, p.block < B → w'.cell? p = w.cell? p) : Lies enc size w' B A xs := fun hn => by
  obtain ⟨b, o, hA, hb, hc⟩ := h hn
  exact ⟨b, o, hA, hb, fun i x hx j hj => (hk _ hb).trans (hc i x hx j hj)⟩
theorem Lies.below (h : Lies enc size w B A xs) (hb : Below B w w') : Lies enc size w' B A xs := h.keep fun _ hp => hb.cell hp
theorem Lies.more {B' : Nat} (h : Lies enc size w B A xs) (hB : B ≤ B') : Lies enc size w B' A xs := fun hn => by
  obtain ⟨b, o, hA, hb, hc⟩ := h hn
  exact ⟨b, o, hA, by omega, hc⟩
theorem Lies.add_ {b o n j : Nat} : o + n * size + (j + 0) = o + n * size + j := rfl
end
theorem Lies.single {α : Type} {enc : α → List Value} {size : Nat} (w : World) (cs : Array Value) (t : TypeId) (x : α) (h : ∀ j, j < size → cs[j]? = (enc x)[j]?) : Lies enc size (w.alloc (.cells cs t)) (w.alloc (.cells cs t)).heap.size (some ⟨w.heap.size, 0, none⟩) [x] := fun _ => by
  refine ⟨w.heap.size, 0, rfl, by simp [World.size_alloc], fun i y hy j hj => ?_⟩
  match i, hy with
  | 0, hy =>
    cases hy
    rw [World.cell?_alloc_at cs t _ _ rfl, ← h j hj]
    congr 1
    omega
theorem exists_list {α : Type} {p : Nat → α → Prop} : ∀ n, (∀ i, i < n → ∃ x, p i x) → ∃ xs : List α, xs.length = n ∧ ∀ i x, xs[i]? = some x → p i x := by
  intro n
  induction n with
  | zero => intro _; exact ⟨[], rfl, fun i x h => by simp at h⟩
  | succ n ih =>
    intro h
    obtain ⟨xs, hl, hx⟩ := ih fun i hi => h i (by omega)
    obtain ⟨y, hy⟩ := h n (by omega)
    refine ⟨xs ++ [y], by simp [hl], fun i x hi => ?_⟩
    rcases Nat.lt_or_ge i n with hlt | hge
    · rw [List.getElem?_append_left (by omega)] at hi
      exact hx i x hi
    · rw [List.getElem?_append_right (by omega)] at hi
      have hi0 : i - xs.length = 0 := by
        have := (List.getElem?_eq_some_iff.1 hi).1
        simp at this
        omega
      rw [hi0] at hi
      obtain rfl : i = n := by omega
      simp at hi
      exact hi ▸ hy
theorem cell_lt {w : World} {a : Addr} {v : Value} (h : w.cell? a = some v) : a.block < w.heap.size ∧ a.spot = none := by
  unfold World.cell? at h
  rcases hb : w.heap[a.block]? with _ | o
  · rw [hb] at h; cases h
  · refine ⟨(Array.getElem?_eq_some_iff.1 hb).1, ?_⟩
    rw [hb] at h
    cases o <;> simp only at h <;> try cases h
    split at h
    · cases h
    · rename_i hs; simpa using hs
section
variable {H : Type} {encH : TypeId × Value → H} {w : World} {base : Nat} {sp : Nat → Bool} {held : Bool}
theorem rows_of_cs {α : Type} {enc : α → List Value} {Wf : α → Prop} {size : Nat} {t e : TypeId} {fuel : Nat} {cs : List Value} {x : DataW H × List MemPlace} (ht : Tryd.prog.underlying t = some (.slice e)) (hsz : Tryd.prog.cellsOf e = size) (hpos : 0 < size)
    (hel : ∀ {fuel : Nat} {cs : List Value} {y : DataW H × List MemPlace}, DataW.trod encH Tryd.prog w base sp held fuel e cs = some y → ∃ k : α, Wf k ∧ cs = enc k) (hlen : ∀ k, (enc k).length = size)
    (h : DataW.trod encH Tryd.prog w base sp held fuel t cs = some x) : ∃ (A : Option Addr) (c : Nat) (xs : List α), cs = [.slice A xs.length c] ∧ xs.length ≤ c ∧ c ≤ maxLen ∧ (∀ (i : Nat) k, xs[i]? = some k → Wf k) ∧ Lies enc size w w.heap.size A xs := by
  rcases open_slice ht h with ⟨rfl, _⟩ | ⟨a, len, cap, m, n, D, Pl, rfl, hb, hl, hm, hmm, hx, hi⟩
  · exact ⟨none, 0, [], rfl, by simp, by simp [maxLen], fun i k hk => by simp at hk, Lies.nil_⟩
  · have hlm : len ≤ m := by rw [hmm]; split <;> omega
    obtain ⟨xs, hxl, hxs⟩ := exists_list (α := α) (p := fun i k => Wf k ∧ w.cells? base (a.add (i * size)) size = some (enc k)) len fun i hlt => by
      obtain ⟨cs', h1, h2⟩ := hi i (by omega)
      obtain ⟨k, hk, rfl⟩ := hel h2
      rw [hsz] at h1
      exact ⟨k, hk, h1⟩
    refine ⟨some a, cap, xs, by rw [hxl], by omega, hm, fun i k hk => (hxs i k hk).1, fun hne => ?_⟩
    have h0 : 0 < xs.length := List.length_pos_iff.2 hne
    have e0 : xs[0]? = some xs[0] := List.getElem?_eq_getElem h0
    obtain ⟨_, _, hat⟩ := World.cells?_some (hxs 0 _ e0).2
    have hc0 := hat 0 hpos
    rw [Nat.zero_mul, Addr.add_zero', Addr.add_zero', List.getElem?_eq_getElem (by rw [hlen]; exact hpos)] at hc0
    obtain ⟨hblk, hspot⟩ := cell_lt hc0
    obtain ⟨b, o, s⟩ := a
    obtain rfl : s = none := hspot
    refine ⟨b, o, rfl, hblk, fun i k hk j hj => ?_⟩
    obtain ⟨_, _, hat⟩ := World.cells?_some (hxs i k hk).2
    have := hat j hj
    rw [Addr.add_lit, Addr.add_lit] at this
    exact this
theorem open_rows {α : Type} {enc : α → List Value} {Wf : α → Prop} {size : Nat} {r : Reach} {b0 : Nat} {t e : TypeId} {v : Value} {d : DataW H} {ps : List MemPlace} (ht : Tryd.prog.underlying t = some (.slice e)) (hsz : Tryd.prog.cellsOf e = size) (hpos : 0 < size)
    (hel : ∀ {fuel : Nat} {cs : List Value} {y : DataW H × List MemPlace}, DataW.trod encH Tryd.prog w base sp held fuel e cs = some y → ∃ k : α, Wf k ∧ cs = enc k) (hlen : ∀ k, (enc k).length = size)
    (hval : Value.okWide Tryd.prog w r b0 t v) (h : DataW.Trod encH Tryd.prog w base sp held t v d ps) : ∃ (A : Option Addr) (c : Nat) (xs : List α), v = .slice A xs.length c ∧ xs.length ≤ c ∧ c ≤ maxLen ∧ (∀ (i : Nat) k, xs[i]? = some k → Wf k) ∧ Lies enc size w w.heap.size A xs := by
  obtain ⟨fuel, hf⟩ := h
  obtain ⟨A, c, xs, hcs, h1, h2, h3, h4⟩ := rows_of_cs ht hsz hpos hel hlen hf
  refine ⟨A, c, xs, ?_, h1, h2, h3, h4⟩
  obtain ⟨a, len, cap, rfl⟩ := okWide_slice ht hval
  simpa [Value.cells] using hcs
end
/-- a piece of the heap -/
structure Piece where
  base : Int
  len : Int
  state : Int
theorem Piece.ext_iff' {a b : Piece} : (a.base = b.base ∧ a.len = b.len ∧ a.state = b.state) ↔ a = b := by
  constructor
  · rintro ⟨h1, h2, h3⟩
    cases a; cases b; simp_all
  · rintro rfl; exact ⟨rfl, rfl, rfl⟩
instance : DecidableEq Piece := fun a b => decidable_of_iff (a.base = b.base ∧ a.len = b.len ∧ a.state = b.state) Piece.ext_iff'
structure Piece.Wf (k : Piece) : Prop where
  base : i64 k.base
  len : i64 k.len
  state : i64 k.state
def encP (p : Piece) : List Value := [.int .i64 p.base, .int .i64 p.len, .int .i64 p.state]
def encK (k : Key) : List Value := [.int .i64 k.perm, .int .i64 k.base, .int .i64 k.len, .int .i64 k.pos, .int .i64 k.tag]
def encV (v : Val) : List Value := [.bool v.is, .int .i64 v.n, .int .i64 v.key.perm, .int .i64 v.key.base, .int .i64 v.key.len, .int .i64 v.key.pos, .int .i64 v.key.tag]
end Go.Proofs.YtbkjhdohkdeniaaDoor
