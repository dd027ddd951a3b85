/- Machines, read as plain data; what Check says of one. Conditions: none. -/
import Derived.Test.YtbkjhdohkdeniaaDoorImage
import Derived.Test.YtbkjhdohkdeniaaDoorMem
import Derived.Test.YtbkjhdohkdeniaaDoorBox
import Derived.Test.YtbkjhdohkdeniaaDoorOwnSet
import Derived.LoopN
namespace Go.Proofs.YtbkjhdohkdeniaaDoor
open Go.ChangeShapes Go.WideShapes Go.RowKit Go.Deep
set_option linter.unusedVariables false
set_option linter.unusedSimpArgs false
set_option maxRecDepth 100000
structure Frame where
  code : Key
  data : Val
theorem Frame.ext_iff' {a b : Frame} : (a.code = b.code ∧ a.data = b.data) ↔ a = b := by
  constructor
  · rintro ⟨h0, h1⟩
    cases a; cases b; simp_all
  · rintro rfl; exact ⟨rfl, rfl⟩
instance : DecidableEq Frame := fun a b => decidable_of_iff (a.code = b.code ∧ a.data = b.data) Frame.ext_iff'
structure Frame.Wf (k : Frame) : Prop where
  code : k.code.Wf
  data : k.data.Wf
def encF (x : Frame) : List Value := [.int .i64 x.code.perm, .int .i64 x.code.base, .int .i64 x.code.len, .int .i64 x.code.pos, .int .i64 x.code.tag, .bool x.data.is, .int .i64 x.data.n, .int .i64 x.data.key.perm, .int .i64 x.data.key.base, .int .i64 x.data.key.len, .int .i64 x.data.key.pos, .int .i64 x.data.key.tag]
theorem Lies.cellsF {w : World} {B k : Nat} {A : Option Addr} {xs : List Frame} (h : Lies encF 12 w B A xs) (hk : k < xs.length) : ∃ b o p, A = some ⟨b, o, none⟩ ∧ b < B ∧ xs[k]? = some p ∧ w.cell? ⟨b, o + k * 12, none⟩ = some (.int .i64 p.code.perm) ∧ w.cell? ⟨b, o + k * 12 + 1, none⟩ = some (.int .i64 p.code.base) ∧ w.cell? ⟨b, o + k * 12 + 2, none⟩ = some (.int .i64 p.code.len) ∧ w.cell? ⟨b, o + k * 12 + 3, none⟩ = some (.int .i64 p.code.pos) ∧ w.cell? ⟨b, o + k * 12 + 4, none⟩ = some (.int .i64 p.code.tag) ∧ w.cell? ⟨b, o + k * 12 + 5, none⟩ = some (.bool p.data.is) ∧ w.cell? ⟨b, o + k * 12 + 6, none⟩ = some (.int .i64 p.data.n) ∧ w.cell? ⟨b, o + k * 12 + 7, none⟩ = some (.int .i64 p.data.key.perm) ∧ w.cell? ⟨b, o + k * 12 + 8, none⟩ = some (.int .i64 p.data.key.base) ∧ w.cell? ⟨b, o + k * 12 + 9, none⟩ = some (.int .i64 p.data.key.len) ∧ w.cell? ⟨b, o + k * 12 + 10, none⟩ = some (.int .i64 p.data.key.pos) ∧ w.cell? ⟨b, o + k * 12 + 11, none⟩ = some (.int .i64 p.data.key.tag) := by
  obtain ⟨b, o, p, hA, hb, hp, hc⟩ := h.at_ hk
  exact ⟨b, o, p, hA, hb, hp, hc 0 (by omega), hc 1 (by omega), hc 2 (by omega), hc 3 (by omega), hc 4 (by omega), hc 5 (by omega), hc 6 (by omega), hc 7 (by omega), hc 8 (by omega), hc 9 (by omega), hc 10 (by omega), hc 11 (by omega)⟩
/-- a machine: its registers, the key by which it runs, its memory, its stack, what it has told -/
structure Mach where
  regs : List Val
  code : Key
  mem : List Val
  stack : List Frame
  out : List Int
structure Mach.Wf (m : Mach) : Prop where
  regs : ∀ (i : Nat) v, m.regs[i]? = some v → Val.Wf v
  code : m.code.Wf
  mem : ∀ (i : Nat) v, m.mem[i]? = some v → Val.Wf v
  stack : ∀ (i : Nat) v, m.stack[i]? = some v → Frame.Wf v
  out : ∀ (i : Nat) n, m.out[i]? = some n → i64 n
def machL (regs : List Val) (k : Key) (a b c : Value) : List Value := regs.flatMap encV ++ ([.int .i64 k.perm, .int .i64 k.base, .int .i64 k.len, .int .i64 k.pos, .int .i64 k.tag] ++ [a, b, c])
section
variable {regs : List Val} {k : Key} {a b c : Value}
theorem machL_reg (hl : regs.length = 8) {i j : Nat} {v : Val} (hv : regs[i]? = some v) (hj : j < 7) : (machL regs k a b c)[i * 7 + j]? = (encV v)[j]? := by
  have hlen := flat_len (xs := regs) (enc := encV) (size := 7) (fun _ => rfl)
  have hi : i < 8 := by have := (List.getElem?_eq_some_iff.1 hv).1; omega
  unfold machL
  rw [List.getElem?_append_left (by omega)]
  exact flat_at (enc := encV) (size := 7) (fun _ => rfl) hv hj
theorem machL_tail (hl : regs.length = 8) (j : Nat) : (machL regs k a b c)[56 + j]? = ([.int .i64 k.perm, .int .i64 k.base, .int .i64 k.len, .int .i64 k.pos, .int .i64 k.tag] ++ [a, b, c])[j]? := by
  have hlen := flat_len (xs := regs) (enc := encV) (size := 7) (fun _ => rfl)
  unfold machL
  rw [List.getElem?_append_right (by omega), show 56 + j - (regs.flatMap encV).length = j by omega]
theorem machL_length (hl : regs.length = 8) : (machL regs k a b c).length = 64 := by
  have hlen := flat_len (xs := regs) (enc := encV) (size := 7) (fun _ => rfl)
  unfold machL
  rw [List.length_append, hlen, hl]; rfl
end
/-- the cells mc are the machine m, its slices below block B -/
structure MachV (w : World) (B : Nat) (mc : Array Value) (m : Mach) : Prop where
  ex : ∃ (A S O : Option Addr) (a s o : Nat), mc = (machL m.regs m.code (.slice A m.mem.length a) (.slice S m.stack.length s) (.slice O m.out.length o)).toArray ∧ m.mem.length ≤ a ∧ a ≤ maxLen ∧ m.stack.length ≤ s ∧ s ≤ maxLen ∧ m.out.length ≤ o ∧ o ≤ maxLen ∧
    Lies encV 7 w B A m.mem ∧ Lies encF 12 w B S m.stack ∧ Lies encI 1 w B O m.out
  regs : m.regs.length = 8
theorem MachV.below {w w' : World} {B : Nat} {mc : Array Value} {m : Mach} (h : MachV w B mc m) (hb : Below B w w') : MachV w' B mc m := by
  obtain ⟨A, S, O, a, s, o, h0, h1, h2, h3, h4, h5, h6, h7, h8, h9⟩ := h.ex
  exact ⟨⟨A, S, O, a, s, o, h0, h1, h2, h3, h4, h5, h6, h7.below hb, h8.below hb, h9.below hb⟩, h.regs⟩
theorem MachV.more {w : World} {B B' : Nat} {mc : Array Value} {m : Mach} (h : MachV w B mc m) (hB : B ≤ B') : MachV w B' mc m := by
  obtain ⟨A, S, O, a, s, o, h0, h1, h2, h3, h4, h5, h6, h7, h8, h9⟩ := h.ex
  exact ⟨⟨A, S, O, a, s, o, h0, h1, h2, h3, h4, h5, h6, h7.more hB, h8.more hB, h9.more hB⟩, h.regs⟩
theorem MachV.size {w : World} {B : Nat} {mc : Array Value} {m : Mach} (h : MachV w B mc m) : mc.size = 64 := by
  obtain ⟨A, S, O, a, s, o, h0, _⟩ := h.ex
  rw [h0, List.size_toArray, machL_length h.regs]
/-- what the walk wants of the cells -/
theorem MachV.cells {w : World} {B : Nat} {mc : Array Value} {m : Mach} (h : MachV w B mc m) : ∃ (A S O : Option Addr) (a s o : Nat),
    mc[56]? = some (.int .i64 m.code.perm) ∧ mc[57]? = some (.int .i64 m.code.base) ∧ mc[58]? = some (.int .i64 m.code.len) ∧ mc[59]? = some (.int .i64 m.code.pos) ∧ mc[60]? = some (.int .i64 m.code.tag) ∧
    mc[61]? = some (.slice A m.mem.length a) ∧ mc[62]? = some (.slice S m.stack.length s) ∧ mc[63]? = some (.slice O m.out.length o) ∧ m.mem.length ≤ a ∧ a ≤ maxLen ∧ m.stack.length ≤ s ∧ s ≤ maxLen ∧ m.out.length ≤ o ∧ o ≤ maxLen ∧
    Lies encV 7 w B A m.mem ∧ Lies encF 12 w B S m.stack ∧ Lies encI 1 w B O m.out ∧ (∀ i v, m.regs[i]? = some v → ∀ j, j < 7 → mc[i * 7 + j]? = (encV v)[j]?) := by
  obtain ⟨A, S, O, a, s, o, h0, h1, h2, h3, h4, h5, h6, h7, h8, h9⟩ := h.ex
  have ht := fun j => machL_tail (k := m.code) (a := .slice A m.mem.length a) (b := .slice S m.stack.length s) (c := .slice O m.out.length o) h.regs j
  refine ⟨A, S, O, a, s, o, ?_, ?_, ?_, ?_, ?_, ?_, ?_, ?_, h1, h2, h3, h4, h5, h6, h7, h8, h9, fun i v hv j hj => by rw [h0, List.getElem?_toArray]; exact machL_reg h.regs hv hj⟩ <;> rw [h0, List.getElem?_toArray]
  · exact ht 0
  · exact ht 1
  · exact ht 2
  · exact ht 3
  · exact ht 4
  · exact ht 5
  · exact ht 6
  · exact ht 7

/-- the first error of two -/
def seqE (a b : Int) : Int := if (a != 0) = true then a else b
theorem seqE_no {a b : Int} (h : (a != 0) = true) : seqE a b = a := by unfold seqE; rw [if_pos h]
theorem seqE_ok {a b : Int} (h : (a != 0) = false) : seqE a b = b := by unfold seqE; rw [if_neg (by simp [h])]
def frameE (f : Frame) : Int := seqE (keyE f.code) (valE f.data)
def numE (n : Int) : Int := if (n == wr n) = true then 0 else 1
/-- Check of a machine -/
def machE (m : Mach) : Int := seqE (firstE valE m.regs) (seqE (keyE m.code) (seqE (memE m.mem) (if 16 < m.stack.length then 2 else seqE (firstE frameE m.stack) (if 100 < m.out.length then 2 else firstE numE m.out))))
theorem firstE_append {α : Type} {f : α → Int} {l r : List α} : firstE f (l ++ r) = seqE (firstE f l) (firstE f r) := by
  induction l with
  | nil => rfl
  | cons x l ih =>
    rw [List.cons_append, firstE, firstE]
    cases h : (f x != 0)
    · simp only [Bool.false_eq_true, if_false]; exact ih
    · simp only [if_true]; rw [seqE_no h]
theorem seqE_assoc (a b c : Int) : seqE (seqE a b) c = seqE a (seqE b c) := by
  cases h : (a != 0)
  · rw [seqE_ok h, seqE_ok h]
  · rw [seqE_no h, seqE_no h, seqE_no h]
theorem valE_key (k : Key) : valE ⟨true, 0, k⟩ = keyE k := by
  cases h : keyOk k <;> simp [valE, keyE, h]
theorem machE_ref (m : Mach) : machE m = seqE (firstE valE (m.regs ++ [⟨true, 0, m.code⟩])) (seqE (memE m.mem) (if 16 < m.stack.length then 2 else seqE (firstE frameE m.stack) (if 100 < m.out.length then 2 else firstE numE m.out))) := by
  unfold machE
  rw [firstE_append, seqE_assoc]
  congr 1
  congr 1
  show keyE m.code = if (valE ⟨true, 0, m.code⟩ != 0) = true then valE ⟨true, 0, m.code⟩ else 0
  rw [valE_key]
  split
  · rfl
  · rename_i h; simpa using h
end Go.Proofs.YtbkjhdohkdeniaaDoor
