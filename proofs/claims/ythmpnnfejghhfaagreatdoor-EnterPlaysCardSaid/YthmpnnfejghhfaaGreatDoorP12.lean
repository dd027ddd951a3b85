/- What the parts say: Machines, read as plain data; what Check says of one. Conditions: none. -/
import Derived.Test.YthmpnnfejghhfaaGreatDoorP03
import Derived.Test.YthmpnnfejghhfaaGreatDoorP07
import Derived.Test.YthmpnnfejghhfaaGreatDoorP09
import Derived.Test.YthmpnnfejghhfaaGreatDoorP10
import Derived.LoopN
import Derived.Test.YthmpnnfejghhfaaGreatDoorP11
import Derived.Test.YthmpnnfejghhfaaGreatDoorP02
set_option linter.unusedVariables false
set_option linter.unusedSimpArgs false
namespace Go.Proofs.YthmpnnfejghhfaaGreatDoor
theorem az33 {P : Prop} (h : P := by
  go_wp2_with (first | (go_at_call 45; refine am183 ?_; intro w1; intro HK hbw HB0 c0 f0 z0) | (go_at_call 46; (with_reducible refine (c_mem_Check A a m.mem _ ((HLM.out.below hbw).more (by omega))).mono ?_); refine am156 ?_; intro w2; intro HK hbw HB0 c0 f0 z0))
  go_returns
  exact Ret.int H.out.symm hbw) : P := h
theorem az43 {P : Prop} (h : P := by
  go_wp2_with (go_at_call 54; refine am194 ?_; intro w3; intro HK hbw HB0 c0 f0 z0)
  go_returns
  exact Ret.int H.out.symm hbw) : P := h
theorem az63 {P : Prop} (h : P := by
  apply List.ext_getElem?
  intro j
  rw [List.getElem?_take, List.getElem?_drop]
  by_cases hj : j < 7
  · rw [if_pos hj]
    have := flat_at (enc := encV) (size := 7) (j := j) (fun _ => rfl) hv hj
    rw [hr, this]; rfl
  · rw [if_neg hj, List.getElem?_eq_none (by simp; omega)]) : P := h
theorem am124 {P Q : Prop} (k : Q) (h : Hq Q → P := by (intro k_; (with_reducible refine (c_keys_Check p.code _).mono ?_); intro e w1 hr; obtain ⟨rfl, hb, hc, hf, hz⟩ := hr.use; (try simp only [ws] at hz); clear hr; have c0 := fun o => hc (w.heap.size) o szl; have f0 := fun o => hf (w.heap.size) o szl; have z0 : w.heap.size < w1.heap.size := szl; have c1 := fun o => hc (wr.heap.size) o szl; have f1 := fun o => hf (wr.heap.size) o szl; have z1 : wr.heap.size < w1.heap.size := szl; clear hc hf; simp only [go_sem, World.size_alloc, *] at c0 f0 c1 f1; revert f1; revert c1; revert f0; revert c0; revert z1; revert z0; revert hz; revert hb; revert w1; exact k_.out)) : P := h ⟨k⟩
theorem am181 {P Q : Prop} (k : Q) (h : Hq Q → P := by (intro k_; (with_reducible refine (r_CellCheck ⟨true, 0, p.code⟩ HC.out _).mono ?_); intro e w4 hr; obtain ⟨rfl, hb, hc, hf, hz⟩ := hr.use; (try simp only [ws] at hz); clear hr; have c0 := fun o => hc (wr.heap.size + 1) o szl; have f0 := fun o => hf (wr.heap.size + 1) o szl; have z0 : wr.heap.size + 1 < w4.heap.size := szl; clear hc hf; simp only [go_sem, World.size_alloc, *] at c0 f0; revert f0; revert c0; revert z0; revert hz; revert hb; revert w4; exact k_.out)) : P := h ⟨k⟩
theorem am183 {P Q : Prop} (k : Q) (h : Hq Q → P := by (intro k_; (with_reducible refine (c_keys_Check m.code _).mono ?_); refine am110 ?_; intro w1 hb hz; have hK := KeptB.on (HK.out) hb; refine am100 ?_; clear hb hz hK; revert w1; exact k_.out)) : P := h ⟨k⟩
theorem am184 {P Q : Prop} (k : Q) (h : Hq Q → P := by (intro k_; (with_reducible refine (r_CellCheck p.data HD.out _).mono ?_); intro e w5 hr; obtain ⟨rfl, hb, hc, hf, hz⟩ := hr.use; (try simp only [ws] at hz); clear hr; have c0 := fun o => hc (wr.heap.size + 1) o szl; have f0 := fun o => hf (wr.heap.size + 1) o szl; have z0 : wr.heap.size + 1 < w5.heap.size := szl; clear hc hf; simp only [go_sem, World.size_alloc, *] at c0 f0; revert f0; revert c0; revert z0; revert hz; revert hb; revert w5; exact k_.out)) : P := h ⟨k⟩
theorem am191 {P Q : Prop} (k : Q) (h : Hq Q → P := by (intro k_; (with_reducible refine (c_cell_Check p.data _).mono ?_); intro e w2 hr; obtain ⟨rfl, hb, hc, hf, hz⟩ := hr.use; (try simp only [ws] at hz); clear hr; have c0 := fun o => hc (w.heap.size) o szl; have f0 := fun o => hf (w.heap.size) o szl; have z0 : w.heap.size < w2.heap.size := szl; clear hc hf; simp only [go_sem, World.size_alloc, *] at c0 f0; revert f0; revert c0; revert z0; revert hz; revert hb; revert w2; exact k_.out)) : P := h ⟨k⟩
theorem am194 {P Q : Prop} (k : Q) (h : Hq Q → P := by (intro k_; (with_reducible refine (r_MemCheck A a m.mem _ HWF.out.mem ((HLM.out.below hbw).more (by omega))).mono ?_); intro e w3 hr; obtain ⟨rfl, hb, hc, hf, hz⟩ := hr.use; clear hr hc hf; have hK := KeptB.on (HKM.out) hb; refine am100 ?_; clear hb hz hK; revert w3; exact k_.out)) : P := h ⟨k⟩
theorem am196 {P Q : Prop} (k : Q) (h : Hq Q → P := by (intro k_; (with_reducible refine (r_CellCheck v (HALW.out _ _ HV.out) _).mono ?_); intro e w3 hr; obtain ⟨rfl, hb, hc, hf, hz⟩ := hr.use; clear hr hc hf; have hK := KeptB.on ((KeptB.nil_ HB.out).alloc _) hb; clear hb hz; have HK := Lib.hid hK; have hbw := hK.below; clear hK; revert hbw; revert HK; revert w3; exact k_.out)) : P := h ⟨k⟩
open Go.ChangeShapes Go.WideShapes Go.RowKit Go.Deep
set_option maxRecDepth 100000
structure Frame where
  code : Key
  data : Val
theorem Frame.ext_iff' {a b : Frame} : (a.code = b.code ∧ a.data = b.data) ↔ a = b := by
  constructor
  · rintro ⟨h0, h1⟩
    cases a; cases b; simp_all
  · rintro rfl; exact ⟨rfl, rfl⟩
instance : DecidableEq Frame := fun a b => decidable_of_iff (a.code = b.code ∧ a.data = b.data) Frame.ext_iff'
structure Frame.Wf (k : Frame) : Prop where
  code : k.code.Wf
  data : k.data.Wf
def encF (x : Frame) : List Value := [.int .i64 x.code.perm, .int .i64 x.code.base, .int .i64 x.code.len, .int .i64 x.code.pos, .int .i64 x.code.tag, .bool x.data.is, .int .i64 x.data.n, .int .i64 x.data.key.perm, .int .i64 x.data.key.base, .int .i64 x.data.key.len, .int .i64 x.data.key.pos, .int .i64 x.data.key.tag]
theorem cells_Frame : Tryz.prog.cellsOf 73 = 12 := by kernel_rfl
section
variable {H : Type} {enc : TypeId × Value → H} {w : World} {base : Nat} {sp : Nat → Bool} {held : Bool}
theorem trod_Frame {fuel : Nat} {cs : List Value} {x : DataW H × List MemPlace} (h : DataW.trod enc Tryz.prog w base sp held fuel 73 cs = some x) : ∃ k : Frame, k.Wf ∧ cs = encF k := by
  obtain ⟨xs, n, rfl, rfl, hl, hx, hf⟩ := DataW.trod_struct Tryz.underlying73 h
  have hl' : cs.length = 12 := hl.trans cells_Frame; have hx' : xs.length = 2 := hx
  match cs, hl' with
  | [c0, c1, c2, c3, c4, c5, c6, c7, c8, c9, c10, c11], _ =>
    obtain ⟨y0, e0⟩ := some_at hx' (i := 0) (by omega); have g0 : DataW.trod enc Tryz.prog w base sp held n 23 [c0, c1, c2, c3, c4] = some y0 := field_at hf (i := 0) rfl rfl rfl cells_key e0; obtain ⟨n0, w0, z0⟩ := trod_key g0; obtain ⟨y1, e1⟩ := some_at hx' (i := 1) (by omega); have g1 : DataW.trod enc Tryz.prog w base sp held n 25 [c5, c6, c7, c8, c9, c10, c11] = some y1 := field_at hf (i := 1) rfl rfl rfl cells_val e1; obtain ⟨n1, w1, z1⟩ := trod_val g1; refine ⟨⟨n0, n1⟩, ⟨w0, w1⟩, ?_⟩; simp only [List.cons.injEq, and_true] at z0 z1; simp only [encF, List.cons.injEq, and_true]; simp only [z0, z1, and_self]
end
theorem el_F : ElT Tryz.prog encF 28 73 12 96 where
  under := Tryz.underlying28
  info := by
    obtain ⟨i0, hi, hz0, hz1, hz2⟩ := info_parts (show (Tryz.prog.info? 73).map (fun i => (i.zero, i.size, i.bytes)) = some (some (.agg #[.int .i64 0, .int .i64 0, .int .i64 0, .int .i64 0, .int .i64 0, .bool false, .int .i64 0, .int .i64 0, .int .i64 0, .int .i64 0, .int .i64 0, .int .i64 0]), 12, 96) by kernel_rfl)
    exact ⟨i0, _, hi, hz0, hz1, hz2, rfl⟩
  pos := by decide
  len := fun _ => rfl
  one := fun x u hu => by
    simp only [encF, List.mem_cons, List.not_mem_nil, or_false] at hu
    rcases hu with rfl | rfl | rfl | rfl | rfl | rfl | rfl | rfl | rfl | rfl | rfl | rfl <;> rfl
theorem Lies.cellsF {w : World} {B k : Nat} {A : Option Addr} {xs : List Frame} (h : Lies encF 12 w B A xs) (hk : k < xs.length) : ∃ b o p, A = some ⟨b, o, none⟩ ∧ b < B ∧ xs[k]? = some p ∧ w.cell? ⟨b, o + k * 12, none⟩ = some (.int .i64 p.code.perm) ∧ w.cell? ⟨b, o + k * 12 + 1, none⟩ = some (.int .i64 p.code.base) ∧ w.cell? ⟨b, o + k * 12 + 2, none⟩ = some (.int .i64 p.code.len) ∧ w.cell? ⟨b, o + k * 12 + 3, none⟩ = some (.int .i64 p.code.pos) ∧ w.cell? ⟨b, o + k * 12 + 4, none⟩ = some (.int .i64 p.code.tag) ∧ w.cell? ⟨b, o + k * 12 + 5, none⟩ = some (.bool p.data.is) ∧ w.cell? ⟨b, o + k * 12 + 6, none⟩ = some (.int .i64 p.data.n) ∧ w.cell? ⟨b, o + k * 12 + 7, none⟩ = some (.int .i64 p.data.key.perm) ∧ w.cell? ⟨b, o + k * 12 + 8, none⟩ = some (.int .i64 p.data.key.base) ∧ w.cell? ⟨b, o + k * 12 + 9, none⟩ = some (.int .i64 p.data.key.len) ∧ w.cell? ⟨b, o + k * 12 + 10, none⟩ = some (.int .i64 p.data.key.pos) ∧ w.cell? ⟨b, o + k * 12 + 11, none⟩ = some (.int .i64 p.data.key.tag) := by
  obtain ⟨b, o, p, hA, hb, hp, hc⟩ := h.at_ hk
  exact ⟨b, o, p, hA, hb, hp, hc 0 (by omega), hc 1 (by omega), hc 2 (by omega), hc 3 (by omega), hc 4 (by omega), hc 5 (by omega), hc 6 (by omega), hc 7 (by omega), hc 8 (by omega), hc 9 (by omega), hc 10 (by omega), hc 11 (by omega)⟩
structure Mach where
  regs : List Val
  code : Key
  mem : List Val
  stack : List Frame
  out : List Int
structure Mach.Wf (m : Mach) : Prop where
  regs : ∀ (i : Nat) v, m.regs[i]? = some v → Val.Wf v
  code : m.code.Wf
  mem : ∀ (i : Nat) v, m.mem[i]? = some v → Val.Wf v
  stack : ∀ (i : Nat) v, m.stack[i]? = some v → Frame.Wf v
  out : ∀ (i : Nat) n, m.out[i]? = some n → i64 n
def machL (regs : List Val) (k : Key) (a b c : Value) : List Value := regs.flatMap encV ++ ([.int .i64 k.perm, .int .i64 k.base, .int .i64 k.len, .int .i64 k.pos, .int .i64 k.tag] ++ [a, b, c])
section
variable {regs : List Val} {k : Key} {a b c : Value}
theorem machL_reg (hl : regs.length = 8) {i j : Nat} {v : Val} (hv : regs[i]? = some v) (hj : j < 7) : (machL regs k a b c)[i * 7 + j]? = (encV v)[j]? := by
  have hlen := flat_len (xs := regs) (enc := encV) (size := 7) (fun _ => rfl)
  have hi : i < 8 := by have := (List.getElem?_eq_some_iff.1 hv).1; omega
  unfold machL
  rw [List.getElem?_append_left (by omega)]
  exact flat_at (enc := encV) (size := 7) (fun _ => rfl) hv hj
theorem machL_tail (hl : regs.length = 8) (j : Nat) : (machL regs k a b c)[56 + j]? = ([.int .i64 k.perm, .int .i64 k.base, .int .i64 k.len, .int .i64 k.pos, .int .i64 k.tag] ++ [a, b, c])[j]? := by
  have hlen := flat_len (xs := regs) (enc := encV) (size := 7) (fun _ => rfl); unfold machL
  rw [List.getElem?_append_right (by omega), show 56 + j - (regs.flatMap encV).length = j by omega]
theorem machL_length (hl : regs.length = 8) : (machL regs k a b c).length = 64 := by
  have hlen := flat_len (xs := regs) (enc := encV) (size := 7) (fun _ => rfl); unfold machL
  rw [List.length_append, hlen, hl]; rfl
end
structure MachV (w : World) (B : Nat) (mc : Array Value) (m : Mach) : Prop where
  ex : ∃ (A S O : Option Addr) (a s o : Nat), mc = (machL m.regs m.code (.slice A m.mem.length a) (.slice S m.stack.length s) (.slice O m.out.length o)).toArray ∧ m.mem.length ≤ a ∧ a ≤ maxLen ∧ m.stack.length ≤ s ∧ s ≤ maxLen ∧ m.out.length ≤ o ∧ o ≤ maxLen ∧
    Lies encV 7 w B A m.mem ∧ Lies encF 12 w B S m.stack ∧ Lies encI 1 w B O m.out
  regs : m.regs.length = 8
theorem MachV.below {w w' : World} {B : Nat} {mc : Array Value} {m : Mach} (h : MachV w B mc m) (hb : Below B w w') : MachV w' B mc m := by
  obtain ⟨A, S, O, a, s, o, h0, h1, h2, h3, h4, h5, h6, h7, h8, h9⟩ := h.ex
  exact ⟨⟨A, S, O, a, s, o, h0, h1, h2, h3, h4, h5, h6, h7.below hb, h8.below hb, h9.below hb⟩, h.regs⟩
theorem MachV.more {w : World} {B B' : Nat} {mc : Array Value} {m : Mach} (h : MachV w B mc m) (hB : B ≤ B') : MachV w B' mc m := by
  obtain ⟨A, S, O, a, s, o, h0, h1, h2, h3, h4, h5, h6, h7, h8, h9⟩ := h.ex
  exact ⟨⟨A, S, O, a, s, o, h0, h1, h2, h3, h4, h5, h6, h7.more hB, h8.more hB, h9.more hB⟩, h.regs⟩
theorem MachV.size {w : World} {B : Nat} {mc : Array Value} {m : Mach} (h : MachV w B mc m) : mc.size = 64 := by
  obtain ⟨A, S, O, a, s, o, h0, _⟩ := h.ex
  rw [h0, List.size_toArray, machL_length h.regs]
theorem MachV.cells {w : World} {B : Nat} {mc : Array Value} {m : Mach} (h : MachV w B mc m) : ∃ (A S O : Option Addr) (a s o : Nat),
    mc[56]? = some (.int .i64 m.code.perm) ∧ mc[57]? = some (.int .i64 m.code.base) ∧ mc[58]? = some (.int .i64 m.code.len) ∧ mc[59]? = some (.int .i64 m.code.pos) ∧ mc[60]? = some (.int .i64 m.code.tag) ∧
    mc[61]? = some (.slice A m.mem.length a) ∧ mc[62]? = some (.slice S m.stack.length s) ∧ mc[63]? = some (.slice O m.out.length o) ∧ m.mem.length ≤ a ∧ a ≤ maxLen ∧ m.stack.length ≤ s ∧ s ≤ maxLen ∧ m.out.length ≤ o ∧ o ≤ maxLen ∧
    Lies encV 7 w B A m.mem ∧ Lies encF 12 w B S m.stack ∧ Lies encI 1 w B O m.out ∧ (∀ i v, m.regs[i]? = some v → ∀ j, j < 7 → mc[i * 7 + j]? = (encV v)[j]?) := by
  obtain ⟨A, S, O, a, s, o, h0, h1, h2, h3, h4, h5, h6, h7, h8, h9⟩ := h.ex; have ht := fun j => machL_tail (k := m.code) (a := .slice A m.mem.length a) (b := .slice S m.stack.length s) (c := .slice O m.out.length o) h.regs j
  refine ⟨A, S, O, a, s, o, ?_, ?_, ?_, ?_, ?_, ?_, ?_, ?_, h1, h2, h3, h4, h5, h6, h7, h8, h9, fun i v hv j hj => by rw [h0, List.getElem?_toArray]; exact machL_reg h.regs hv hj⟩ <;> rw [h0, List.getElem?_toArray]
  · exact ht 0
  · exact ht 1
  · exact ht 2
  · exact ht 3
  · exact ht 4
  · exact ht 5
  · exact ht 6
  · exact ht 7

def seqE (a b : Int) : Int := if (a != 0) = true then a else b
theorem seqE_no {a b : Int} (h : (a != 0) = true) : seqE a b = a := by unfold seqE; rw [if_pos h]
theorem seqE_ok {a b : Int} (h : (a != 0) = false) : seqE a b = b := by unfold seqE; rw [if_neg (by simp [h])]
def frameE (f : Frame) : Int := seqE (keyE f.code) (valE f.data)
def numE (n : Int) : Int := if (n == wr n) = true then 0 else 1
def machE (m : Mach) : Int := seqE (firstE valE m.regs) (seqE (keyE m.code) (seqE (memE m.mem) (if 16 < m.stack.length then 2 else seqE (firstE frameE m.stack) (if 100 < m.out.length then 2 else firstE numE m.out))))
theorem firstE_append {α : Type} {f : α → Int} {l r : List α} : firstE f (l ++ r) = seqE (firstE f l) (firstE f r) := by
  induction l with
  | nil => rfl
  | cons x l ih =>
    rw [List.cons_append, firstE, firstE]
    cases h : (f x != 0)
    · simp only [Bool.false_eq_true, if_false]; exact ih
    · simp only [if_true]; rw [seqE_no h]
theorem seqE_assoc (a b c : Int) : seqE (seqE a b) c = seqE a (seqE b c) := by
  cases h : (a != 0)
  · rw [seqE_ok h, seqE_ok h]
  · rw [seqE_no h, seqE_no h, seqE_no h]
theorem valE_key (k : Key) : valE ⟨true, 0, k⟩ = keyE k := by
  cases h : keyOk k <;> simp [valE, keyE, h]
theorem machE_ref (m : Mach) : machE m = seqE (firstE valE (m.regs ++ [⟨true, 0, m.code⟩])) (seqE (memE m.mem) (if 16 < m.stack.length then 2 else seqE (firstE frameE m.stack) (if 100 < m.out.length then 2 else firstE numE m.out))) := by
  unfold machE
  rw [firstE_append, seqE_assoc]
  congr 1
  congr 1
  show keyE m.code = if (valE ⟨true, 0, m.code⟩ != 0) = true then valE ⟨true, 0, m.code⟩ else 0
  rw [valE_key]
  split
  · rfl
  · rename_i h; simpa using h
end Go.Proofs.YthmpnnfejghhfaaGreatDoor
namespace Go.Proofs.YthmpnnfejghhfaaGreatDoor
open Go.RowKit
set_option maxRecDepth 100000

section
variable {w w' : World} {g : Nat} {t : TypeId} {cs : Array Value}
theorem Box.setCells : ∀ (us : List Value) (p : Nat) (cs : Array Value) (w : World), Box w g t cs → Box (w.setCells g p us) g t (setMany cs.toList p us).toArray
  | [], _, cs, _, h => by rw [setMany]; exact h
  | u :: us, p, cs, w, h => by
    have := Box.setCells us (p + 1) _ _ (h.set_ p u)
    rw [Array.toList_setIfInBounds] at this
    exact this
end
section
variable {P : Program}
end
section
variable {regs : List Val} {k k' : Key} {a b c : Value}
theorem flat8 (hl : regs.length = 8) : (regs.flatMap encV).length = 56 := by rw [flat_len (enc := encV) (size := 7) (fun _ => rfl), hl]
theorem setMany_left : ∀ (us xs ys : List Value) (p : Nat), p + us.length ≤ xs.length → setMany (xs ++ ys) p us = setMany xs p us ++ ys
  | [], _, _, _, _ => rfl
  | u :: us, xs, ys, p, h => by
    simp only [List.length_cons] at h
    rw [setMany, setMany, List.set_append_left (h := by omega), setMany_left us _ _ _ (by rw [List.length_set]; omega)]
theorem setMany_right : ∀ (us xs ys : List Value) (p : Nat), xs.length ≤ p → setMany (xs ++ ys) p us = xs ++ setMany ys (p - xs.length) us
  | [], _, _, _, _ => rfl
  | u :: us, xs, ys, p, h => by
    rw [setMany, setMany, List.set_append_right (h := h), setMany_right us _ _ _ (by omega), show p + 1 - xs.length = p - xs.length + 1 by omega]
theorem machL_putReg (hl : regs.length = 8) {i : Nat} (hi : i < 8) (y : Val) : setMany (machL regs k a b c) (i * 7) (encV y) = machL (regs.set i y) k a b c := by
  have h8 := flat8 hl; unfold machL
  rw [setMany_left _ _ _ _ (by rw [h8]; show i * 7 + 7 ≤ 56; omega), flat_set_all (enc := encV) (size := 7) (fun _ => rfl) (by omega)]
theorem machL_putCode (hl : regs.length = 8) : setMany (machL regs k a b c) 56 [.int .i64 k'.perm, .int .i64 k'.base, .int .i64 k'.len, .int .i64 k'.pos, .int .i64 k'.tag] = machL regs k' a b c := by
  have h8 := flat8 hl; unfold machL
  rw [setMany_right _ _ _ _ (by omega), h8]
  rfl
theorem machL_set (hl : regs.length = 8) (j : Nat) (u : Value) : (machL regs k a b c).set (56 + j) u = regs.flatMap encV ++ (([.int .i64 k.perm, .int .i64 k.base, .int .i64 k.len, .int .i64 k.pos, .int .i64 k.tag] : List Value) ++ [a, b, c]).set j u := by
  have h8 := flat8 hl; unfold machL
  rw [List.set_append_right (h := by omega), h8, show 56 + j - 56 = j by omega]
theorem machL_pos (hl : regs.length = 8) (n : Int) : (machL regs k a b c).set 59 (.int .i64 n) = machL regs { k with pos := n } a b c := machL_set hl 3 _
theorem machL_mem (hl : regs.length = 8) (u : Value) : (machL regs k a b c).set 61 u = machL regs k u b c := machL_set hl 5 _
theorem machL_stack (hl : regs.length = 8) (u : Value) : (machL regs k a b c).set 62 u = machL regs k a u c := machL_set hl 6 _
theorem machL_out (hl : regs.length = 8) (u : Value) : (machL regs k a b c).set 63 u = machL regs k a b u := machL_set hl 7 _
theorem machL_one (hl : regs.length = 8) (ha : a.oneCell' = true) (hb : b.oneCell' = true) (hc : c.oneCell' = true) : (machL regs k a b c).toArray.all (·.oneCell') = true := by
  rw [Array.all_eq_true_iff_forall_mem]
  intro u hu; simp only [List.mem_toArray, machL, List.mem_append, List.mem_flatMap, List.mem_cons, List.not_mem_nil, or_false] at hu
  rcases hu with ⟨v, _, hv⟩ | (rfl | rfl | rfl | rfl | rfl) | rfl | rfl | rfl
  · simp only [encV, List.mem_cons, List.not_mem_nil, or_false] at hv
    rcases hv with rfl | rfl | rfl | rfl | rfl | rfl | rfl <;> rfl
  all_goals first | rfl | assumption
end
theorem grown_setCell (w : World) (g i : Nat) (u : Value) : w.grownBy (w.setCell ⟨g, i, none⟩ u) (some g) := ⟨rfl, rfl, rfl, by simp [World.size_setCell], fun k hk hne => Below.heap_setCell w _ u k (fun e => hne (by rw [e]))⟩
def RetMach (w : World) (m : Mach) (f : Value → Value) : Ending → World → Prop := fun ed w' =>
  ∃ mc, ed = .returned (f (.agg mc)) ∧ MachV w' w'.heap.size mc m ∧ Below w.heap.size w w'
def Mach.zero : Mach := ⟨List.replicate 8 ⟨false, 0, Key.zero⟩, Key.zero, [], [], []⟩
def nilS : Value := .slice none 0 0
theorem MachV.zero (w : World) (B : Nat) : MachV w B (machL (List.replicate 8 ⟨false, 0, Key.zero⟩) Key.zero nilS nilS nilS).toArray Mach.zero :=
  ⟨⟨none, none, none, 0, 0, 0, rfl, by decide, by decide, by decide, by decide, by decide, by decide, Lies.nil_, Lies.nil_, Lies.nil_⟩, rfl⟩
end Go.Proofs.YthmpnnfejghhfaaGreatDoor
namespace Go.Proofs.YthmpnnfejghhfaaGreatDoor
open Go.RowKit
set_option maxRecDepth 100000

theorem firstE_all {α : Type} {f : α → Int} {l : List α} (h : (firstE f l != 0) = false) : ∀ x ∈ l, f x = 0 := by
  induction l with
  | nil => intro x hx; cases hx
  | cons y l ih =>
    intro x hx
    rw [firstE] at h
    cases hy : (f y != 0)
    · rw [hy] at h
      simp only [Bool.false_eq_true, if_false] at h
      rcases List.mem_cons.1 hx with rfl | hx
      · simpa using hy
      · exact ih h x hx
    · rw [hy] at h
      simp only [if_true] at h
      rw [hy] at h; cases h
theorem firstE_of {α : Type} {f : α → Int} {l : List α} (h : ∀ x ∈ l, f x = 0) : (firstE f l != 0) = false := by
  induction l with
  | nil => rfl
  | cons y l ih =>
    rw [firstE, h y (by simp)]
    exact ih fun x hx => h x (by simp [hx])
theorem firstE_zero {α : Type} {f : α → Int} {l : List α} (h : ∀ x ∈ l, f x = 0) : firstE f l = 0 := by simpa using firstE_of h
theorem valE_is {v : Val} (h : valE v = 0) (hi : v.is = true) : keyOk v.key = true ∧ v.n = 0 := by
  unfold valE at h
  rw [if_pos hi] at h
  split at h
  · split at h
    · exact ⟨by assumption, by assumption⟩
    · cases h
  · cases h
theorem valE_not {v : Val} (h : valE v = 0) (hi : v.is = false) : (-2147483648 ≤ v.n ∧ v.n ≤ 2147483647) ∧ v.key = Key.zero := by
  unfold valE at h
  rw [if_neg (by simp [hi])] at h
  split at h
  · rename_i hn
    split at h
    · exact ⟨inR_iff.1 hn, by assumption⟩
    · cases h
  · cases h
theorem keyE_eq {k : Key} (h : keyE k = 0) : keyOk k = true := by
  cases hk : keyOk k
  · rw [keyE_no hk] at h; cases h
  · rfl
theorem seqE_zero {a b : Int} : (seqE a b != 0) = false ↔ (a != 0) = false ∧ (b != 0) = false := by
  cases h : (a != 0)
  · rw [seqE_ok h]; simp
  · rw [seqE_no h, h]; simp
structure MachOk (m : Mach) : Prop where
  regs : ∀ v ∈ m.regs, valE v = 0
  code : keyOk m.code = true
  len : m.mem.length ≤ 400
  mem : ∀ v ∈ m.mem, valE v = 0
  deep : m.stack.length ≤ 16
  stack : ∀ f ∈ m.stack, keyOk f.code = true ∧ valE f.data = 0
  outs : m.out.length ≤ 100
  out : ∀ n ∈ m.out, n = wr n
theorem machE_ok {m : Mach} (h : (machE m != 0) = false) : MachOk m := by
  unfold machE at h; obtain ⟨h1, h⟩ := seqE_zero.1 h; obtain ⟨h2, h⟩ := seqE_zero.1 h; obtain ⟨h3, h⟩ := seqE_zero.1 h
  split at h
  · cases h
  rename_i hd
  obtain ⟨h4, h⟩ := seqE_zero.1 h
  split at h
  · cases h
  rename_i ho
  unfold memE at h3
  split at h3
  · cases h3
  rename_i hm
  refine ⟨firstE_all h1, keyE_eq (by simpa using h2), by omega, firstE_all h3, by omega, fun f hf => ?_, by omega, fun n hn => ?_⟩
  · have := firstE_all h4 f hf
    unfold frameE at this; have h5 := seqE_zero.1 (by simpa using this)
    exact ⟨keyE_eq (by simpa using h5.1), by simpa using h5.2⟩
  · have := firstE_all h n hn
    unfold numE at this
    split at this
    · rename_i e; simpa using e
    · cases this
theorem MachOk.zero {m : Mach} (h : MachOk m) : (machE m != 0) = false := by
  unfold machE
  refine seqE_zero.2 ⟨firstE_of h.regs, seqE_zero.2 ⟨by rw [keyE_ok h.code]; rfl, seqE_zero.2 ⟨?_, ?_⟩⟩⟩
  · unfold memE
    rw [if_neg (by have := h.len; omega)]
    exact firstE_of h.mem
  · rw [if_neg (by have := h.deep; omega)]
    refine seqE_zero.2 ⟨firstE_of fun f hf => ?_, ?_⟩
    · unfold frameE
      rw [keyE_ok (h.stack f hf).1, seqE_ok rfl, (h.stack f hf).2]
    · rw [if_neg (by have := h.outs; omega)]
      refine firstE_of fun n hn => ?_; unfold numE
      rw [if_pos (by have := h.out n hn; simpa using this)]
end Go.Proofs.YthmpnnfejghhfaaGreatDoor
namespace Go.Proofs.YthmpnnfejghhfaaGreatDoor
open Go.RowKit
set_option maxRecDepth 100000

def regV (m : Mach) (r : Int) : Val := m.regs.getD r.toNat Val.zero
def setR (m : Mach) (r : Int) (v : Val) : Mach := { m with regs := m.regs.set r.toNat v }
def setN (m : Mach) (r n : Int) : Mach := setR m r ⟨false, n, Key.zero⟩
def setK (m : Mach) (r : Int) (k : Key) : Mach := setR m r ⟨true, 0, k⟩
def movC (m : Mach) (d : Int) : Mach := { m with code := { m.code with pos := m.code.pos + d } }
def goF (m : Mach) (d : Int) : Mach × Int := if inR (m.code.pos + d) 0 400 = true then (movC m d, 0) else (m, 13)
def clearF (m : Mach) (c : Int) : Mach := { m with regs := (List.range 8).map fun r => if c / 2 ^ r % 2 = 1 then Val.zero else m.regs.getD r Val.zero }
def askF (k : Key) (c : Int) : Int := if c = 1 then k.perm else if c = 2 then k.base else if c = 3 then k.len else if c = 4 then k.pos else k.tag
def retF (m : Mach) (r : Int) (x : Key × Int) : Mach × Int := if x.2 = 0 then (setK m r x.1, 0) else (m, x.2)
def callF (m : Mach) (a b : Key) : Mach × Int :=
  if a.tag = 0 ∨ a.tag ≠ b.tag then (m, 11) else if hasP 4 a.perm = false ∨ hasP 4 b.perm = true then (m, 12) else if 16 ≤ m.stack.length then (m, 9)
  else ({ m with regs := m.regs.set 7 ⟨true, 0, { b with tag := 0 }⟩, code := { a with tag := 0 }, stack := m.stack ++ [⟨{ m.code with pos := m.code.pos + 1 }, m.regs.getD 7 Val.zero⟩] }, 0)
def backF (m : Mach) : Mach × Int := match m.stack.getLast? with
  | none => (m, 16)
  | some f => ({ m with regs := m.regs.set 7 f.data, code := f.code, stack := m.stack.dropLast }, 0)
def byKeyF (i : Inst) (m : Mach) : Mach × Int :=
  let v := regV m i.b
  if v.is = false then (m, 10)
  else if i.op = 10 then (if (getF m.mem v.key i.c).2 = 0 then (setR m i.a (getF m.mem v.key i.c).1, 0) else (m, (getF m.mem v.key i.c).2))
  else if i.op = 11 then (if (putF m.mem v.key i.c (regV m i.a)).2 = 0 then ({ m with mem := (putF m.mem v.key i.c (regV m i.a)).1 }, 0) else (m, (putF m.mem v.key i.c (regV m i.a)).2))
  else if i.op = 14 then retF m i.a (keyDrop v.key i.c)
  else if i.op = 12 ∨ i.op = 13 then (if (regV m i.c).is = true then (m, 10) else retF m i.a (if i.op = 12 then keyMove v.key (regV m i.c).n else keyNarrow v.key (regV m i.c).n))
  else if i.op = 15 ∨ i.op = 16 then (if (regV m i.c).is = false then (m, 10) else retF m i.a (if i.op = 15 then keySeal v.key (regV m i.c).key else keyOpen v.key (regV m i.c).key))
  else (m, 0)
def numF (i : Inst) (x y : Int) : Int := if i.op = 3 then wr (wr x + wr y) else if i.op = 4 then wr (wr x - wr y) else if i.op = 5 then wr (wr x * wr y) else truthOf (decide (wr x < wr y))
def plainF (i : Inst) (m : Mach) : Mach × Int :=
  if i.op = 1 then (setN m i.a i.c, 0)
  else if i.op = 2 then (setR m i.a (regV m i.b), 0)
  else if i.op = 3 ∨ i.op = 4 ∨ i.op = 5 ∨ i.op = 6 ∨ i.op = 7 then
    (if (regV m i.b).is = true ∨ (regV m i.c).is = true then (m, 10) else if i.op = 6 then (if dve (regV m i.c).n = 0 then (setN m i.a (dvq (regV m i.b).n (regV m i.c).n), 0) else (m, dve (regV m i.c).n)) else (setN m i.a (numF i (regV m i.b).n (regV m i.c).n), 0))
  else if i.op = 17 then (if i.c = 0 then (setN m i.a (truthOf (regV m i.b).is), 0) else if (regV m i.b).is = true then (setN m i.a (askF (regV m i.b).key i.c), 0) else (m, 10))
  else if i.op = 20 then (setK m i.a m.code, 0)
  else if i.op = 21 then (clearF m i.c, 0)
  else if i.op = 22 then (if (regV m i.a).is = true then (m, 10) else if m.out.length = 100 then (m, 9) else ({ m with out := m.out ++ [(regV m i.a).n] }, 0))
  else byKeyF i m
def doF (i : Inst) (m : Mach) : Mach × Int :=
  if i.op = 0 then (m, 16)
  else if i.op = 8 then goF m i.c
  else if i.op = 9 then (if (regV m i.a).is = true then (m, 10) else goF m (if (regV m i.a).n = 0 then 1 else i.c))
  else if i.op = 18 then (if (regV m i.a).is = false ∨ (regV m i.b).is = false then (m, 10) else callF m (regV m i.a).key (regV m i.b).key)
  else if i.op = 19 then backF m
  else if (plainF i m).2 = 0 then (movC (plainF i m).1 1, 0) else (m, (plainF i m).2)
def fetchF (m : Mach) : Inst × Int :=
  let p := place m.mem.length m.code 0 4
  if p.2 ≠ 0 then (instZ, p.2) else
    let v := m.mem.getD p.1.toNat Val.zero
    if v.is = true then (instZ, 5) else readF v.n
def oneF (m : Mach) : Mach × Int := if (fetchF m).2 = 0 then doF (fetchF m).1 m else (m, (fetchF m).2)
end Go.Proofs.YthmpnnfejghhfaaGreatDoor
namespace Go.Proofs.YthmpnnfejghhfaaGreatDoor
open Go.RowKit
set_option maxRecDepth 100000

section
variable {α : Type} {f : α → α} {l : List α} {k : Nat} {x : α}
end
end Go.Proofs.YthmpnnfejghhfaaGreatDoor
namespace Go.Proofs.YthmpnnfejghhfaaGreatDoor
open Go.RowKit
set_option maxRecDepth 100000
section
variable {regs : List Val} {k : Key} {a b c : Value}
theorem info_mach (hl : regs.length = 8) : (Tryz.prog.info? 31).map (·.size) = some (machL regs k a b c).toArray.size := by rw [List.size_toArray, machL_length hl]; kernel_rfl
end
theorem Lies.off {α : Type} {enc : α → List Value} {size : Nat} {w w' : World} {B g : Nat} {A : Option Addr} {xs : List α} (h : Lies enc size w B A xs) (hg : w.grownBy w' (some g)) (hB : B ≤ w.heap.size) (hne : ∀ b o, A = some ⟨b, o, none⟩ → b ≠ g) : Lies enc size w' B A xs := fun hn => by
  obtain ⟨b, o, hA, hb, hc⟩ := h hn
  exact ⟨b, o, hA, hb, fun i x hi j hj => (World.cell?_of_block (w := w) (hg.block b (by omega) (fun e => hne b o hA (by injection e)))).trans (hc i x hi j hj)⟩
theorem Own.cap {α : Type} {enc : α → List Value} {e : TypeId} {size base : Nat} {w : World} {A : Option Addr} {n c : Nat} {xs : List α} (h : Own enc e size w base (.slice A n c) xs) : xs.length ≤ c ∧ c ≤ maxLen := by
  rcases h.2 with ⟨hv, h0⟩ | ⟨g, cap, cur, hv, _, _, h1, h2, _⟩
  · injection hv with _ _ hc
    rw [h0, hc]; exact ⟨Nat.le_refl _, by decide⟩
  · injection hv with _ _ hc
    rw [hc]; exact ⟨h1, h2⟩
end Go.Proofs.YthmpnnfejghhfaaGreatDoor
namespace Go.Proofs.YthmpnnfejghhfaaGreatDoor
open Go.RowKit
set_option maxRecDepth 100000

theorem numE_no {n : Int} (h : (n != wr n) = true) : (numE n != 0) = true := by unfold numE; rw [if_neg (by simpa [bne] using h)]; rfl
theorem numE_ok {n : Int} (h : (n != wr n) = false) : (numE n != 0) = false := by unfold numE; rw [if_pos (by simpa [bne] using h)]; rfl
theorem numE_one {n : Int} (h : (n != wr n) = true) : numE n = 1 := by unfold numE; rw [if_neg (by simpa [bne] using h)]
theorem machB (mc : Array Value) (w : World) : KeptB w [(mc, 31)] (w.alloc (.cells mc 31)) := (KeptB.nil_ (Below.refl _ w)).more (t := 31) (cs := mc) rfl
theorem run_index_regs {regs : List Val} {i : Nat} {v : Val} (hl : regs.length = 8) (hv : regs[i]? = some v) {rl : List Value} (hr : rl = regs.flatMap encV) (w : World) :
    (Instr.index 26 (.agg rl.toArray) (.int .i64 i)).run Tryz.prog w = .ok (.agg #[.bool v.is, .int .i64 v.n, .int .i64 v.key.perm, .int .i64 v.key.base, .int .i64 v.key.len, .int .i64 v.key.pos, .int .i64 v.key.tag]) w := by
  have hi : i < 8 := by have := (List.getElem?_eq_some_iff.1 hv).1; omega
  have hlen := flat_len (xs := regs) (enc := encV) (size := 7) (fun _ => rfl)
  have he : (rl.drop (i * 7)).take 7 = [.bool v.is, .int .i64 v.n, .int .i64 v.key.perm, .int .i64 v.key.base, .int .i64 v.key.len, .int .i64 v.key.pos, .int .i64 v.key.tag] := by
    exact az63
  simp [Instr.index, asIntOf, run_underlying Tryz.underlying26, part, Tryz.isAgg25, Tryz.sizeOf25, he, hi]
set_option maxHeartbeats 4000000 in
theorem c_step_Check (mc : Array Value) (m : Mach) (w : World) (hm : MachV w w.heap.size mc m) :
    Calls Tryz.prog 27 #[.agg mc] w (Ret (.int .i64 (machE m)) w) := by
  obtain ⟨A, S, O, a, s, o, m56, m57, m58, m59, m60, m61, m62, m63, -, -, hs1, hs2, ho1, ho2, hLm, hLs, hLo, hreg⟩ := hm.cells; have hr8 := hm.regs; have HREG := Lib.hid hreg; have HLM := Lib.hid hLm; have HLS := Lib.hid hLs; have HLO := Lib.hid hLo; clear hm hreg hLm hLs hLo
  obtain ⟨rl, hrl⟩ : ∃ rl : List Value, rl = m.regs.flatMap encV := ⟨_, rfl⟩
  have hrlen : rl.length = 56 := (by rw [hrl, flat_len (enc := encV) (size := 7) (fun _ => rfl), hr8]); have HRL := Lib.hid hrl; have HRLEN := Lib.hid hrlen; have HR8 := Lib.hid hr8; clear hrl hrlen hr8
  have HRANGE := Lib.hid (show ∀ j v, rl[j]? = some v → mc[j]? = some v from fun j v hj => by
    rw [HRL.out] at hj
    obtain ⟨i, x, hx, hn, hu⟩ := flat_split (enc := encV) (size := 7) (fun _ => rfl) (by decide) hj
    have := HREG.out i x hx (j % 7) (Nat.mod_lt _ (by decide))
    rw [← hn] at this
    rw [this]; exact hu)
  have E0 := Lib.hid (show machE m = seqE (firstFrom valE m.regs 0) (seqE (keyE m.code) (seqE (memE m.mem) (if 16 < m.stack.length then 2 else seqE (firstE frameE m.stack) (if 100 < m.out.length then 2 else firstE numE m.out)))) from rfl)
  generalize machE m = R at E0
  go_enter Tryz.func27, Tryz.ntmps27
  have HK0 := Lib.hid (machB mc w)
  go_wp2_with (refine wpList_load_mid rfl 26 (.tmp 14) rfl w.heap.size 0 rfl rl _ (fun j v hj => by rw [Nat.zero_add]; exact ((HK0.out.box 0 _ rfl).cell j).trans (HRANGE.out j v hj)) Tryz.underlying26 rfl (by rw [HRLEN.out]; kernel_rfl) ?_)
  go_loopw [4, 5, 16] (fun _ _ v wr => ∃ k : Nat, v = .int .i64 k ∧ k ≤ 8 ∧ R = seqE (firstFrom valE m.regs k) (seqE (keyE m.code) (seqE (memE m.mem) (if 16 < m.stack.length then 2 else seqE (firstE frameE m.stack) (if 100 < m.out.length then 2 else firstE numE m.out)))) ∧ KeptB w [(mc, 31)] wr) (fun _ _ v _ => (8 - intOf v).toNat)
  case atStart => exact ⟨0, rfl, by omega, E0.out, HK0.out⟩
  case round =>
    obtain ⟨k, rfl, hk, he, hK⟩ := hrel
    (skip; have HK := Lib.hid hK; have hbw := hK.below; have HB0 := Lib.hid (hK.box 0 _ rfl); have c0 := fun o => HB0.out.cell o; have f0 := fun o => HB0.out.frozen o; have z0 := HB0.out.lt; (try dsimp only at c0); (try simp only [Nat.add_zero] at c0 f0 z0); clear hK); have HF := Lib.hid he; clear he HK0 E0
    rcases Nat.lt_or_ge k 8 with hlt | hge
    · obtain ⟨v, hv⟩ : ∃ v, m.regs[k]? = some v := ⟨_, List.getElem?_eq_getElem (by rw [HR8.out]; exact hlt)⟩
      have hix := run_index_regs HR8.out hv HRL.out; have HV := Lib.hid hv; clear hv
      cases hm : (valE v != 0)
      · have H := Lib.hid (HF.out.trans (by rw [firstFrom_ok HV.out hm]))
        go_wp2_with (go_at_call 44; (with_reducible refine (c_cell_Check v _).mono ?_); refine am110 ?_; intro w1 hb hz; have hK := KeptB.on (HK.out.alloc _) hb; refine am100 ?_; clear hb hz hK; intro HK hbw HB0 c0 f0 z0)
        go_roundw
        case rel => exact ⟨k + 1, by go_num, by omega, H.out, HK.out⟩
        case measure => simp [intOf]; omega
      · have H := Lib.hid (HF.out.trans (by rw [firstFrom_no HV.out hm, seqE_no hm]))
        go_wp2_with (go_at_call 44; (with_reducible refine (c_cell_Check v _).mono ?_); refine am110 ?_; intro w1 hb hz; have hK := KeptB.on (HK.out.alloc _) hb; refine am100 ?_; clear hb hz hK; intro HK hbw HB0 c0 f0 z0)
        go_returns
        exact Ret.int H.out.symm hbw
    · obtain rfl : k = 8 := by omega
      have E1 := Lib.hid (HF.out.trans (by rw [firstFrom_end (by rw [HR8.out]; exact Nat.le_refl _), seqE_ok rfl])); clear HF
      cases hc : (keyE m.code != 0)
      · have E2 := Lib.hid (E1.out.trans (by rw [seqE_ok hc]))
        cases hmm : (memE m.mem != 0)
        · have E3 := Lib.hid (E2.out.trans (by rw [seqE_ok hmm]))
          by_cases hst : 16 < m.stack.length
          · have H := Lib.hid (E3.out.trans (by rw [if_pos hst]))
            exact az33
          · have E4 := Lib.hid (E3.out.trans (by rw [if_neg hst])); have hst' : m.stack.length ≤ 16 := (by omega); clear hst E1 E2 E3
            go_wp2_with (first | (go_at_call 45; refine am183 ?_; intro w1; intro HK hbw HB0 c0 f0 z0) | (go_at_call 46; (with_reducible refine (c_mem_Check A a m.mem _ ((HLM.out.below hbw).more (by omega))).mono ?_); refine am156 ?_; intro w2; intro HK hbw HB0 c0 f0 z0))
            go_loopw [9, 10, 11, 44] (fun _ _ _ v wr => ∃ k : Nat, v = .int .i64 k ∧ k ≤ m.stack.length ∧ R = seqE (firstFrom frameE m.stack k) (if 100 < m.out.length then 2 else firstE numE m.out) ∧ KeptB w [(mc, 31)] wr) (fun _ _ _ v _ => (m.stack.length - intOf v).toNat)
            case atStart => exact ⟨0, rfl, by omega, E4.out, HK.out⟩
            case round =>
              obtain ⟨k, rfl, hk, he, hK⟩ := hrel
              clear E4 HK hbw HB0 c0 f0 z0; (skip; have HK := Lib.hid hK; have hbw := hK.below; have HB0 := Lib.hid (hK.box 0 _ rfl); have c0 := fun o => HB0.out.cell o; have f0 := fun o => HB0.out.frozen o; have z0 := HB0.out.lt; (try dsimp only at c0); (try simp only [Nat.add_zero] at c0 f0 z0); clear hK); have HF := Lib.hid he; clear he
              rcases Nat.lt_or_ge k m.stack.length with hlt | hge
              · obtain ⟨b, oo, p, hSA, hb, hp, q0, q1, q2, q3, q4, q5, q6, q7, q8, q9, q10, q11⟩ := (HLS.out.below hbw).cellsF hlt
                subst hSA
                have HP := Lib.hid hp; clear hp
                cases h1 : (keyE p.code != 0)
                · cases h2 : (valE p.data != 0)
                  · have H := Lib.hid (HF.out.trans (by rw [firstFrom_ok HP.out (by unfold frameE; rw [seqE_ok h1]; exact h2)]))
                    go_wp2_with (first | ((go_at_call 45; refine am124 ?_; intro w1 hb hz z0 z1 c0 f0 c1 f1); have HK1 := Lib.hid ((HK.out.alloc _).on hb)) | ((go_at_call 44; refine am191 ?_; intro w2 hb hz z0 c0 f0); have HK2 := Lib.hid (HK1.out.on hb)))
                    go_roundw
                    case rel => exact ⟨k + 1, by go_num, by omega, H.out, HK2.out⟩
                    case measure => simp [intOf]; omega
                  · have H := Lib.hid (show R = valE p.data from HF.out.trans (by rw [firstFrom_no HP.out (by unfold frameE; rw [seqE_ok h1]; exact h2), seqE_no (by unfold frameE; rw [seqE_ok h1]; exact h2)]; unfold frameE; rw [seqE_ok h1]))
                    go_wp2_with (first | ((go_at_call 45; refine am124 ?_; intro w1 hb hz z0 z1 c0 f0 c1 f1); have HK1 := Lib.hid ((HK.out.alloc _).on hb)) | ((go_at_call 44; refine am191 ?_; intro w2 hb hz z0 c0 f0); have HK2 := Lib.hid (HK1.out.on hb)))
                    go_returns
                    exact Ret.int H.out.symm HK2.out.below
                · have H := Lib.hid (show R = keyE p.code from HF.out.trans (by rw [firstFrom_no HP.out (by unfold frameE; rw [seqE_no h1]; exact h1), seqE_no (by unfold frameE; rw [seqE_no h1]; exact h1)]; unfold frameE; rw [seqE_no h1]))
                  go_wp2_with ((go_at_call 45; refine am124 ?_; intro w1 hb hz z0 z1 c0 f0 c1 f1); have HK1 := Lib.hid ((HK.out.alloc _).on hb))
                  go_returns
                  exact Ret.int H.out.symm HK1.out.below
              · have E5 := Lib.hid (HF.out.trans (by rw [firstFrom_end hge, seqE_ok rfl])); clear HF
                by_cases hot : 100 < m.out.length
                · have H := Lib.hid (E5.out.trans (by rw [if_pos hot]))
                  go_wp2
                  go_returns
                  exact Ret.int H.out.symm hbw
                · have E6 := Lib.hid (E5.out.trans (by rw [if_neg hot])); have hot' : m.out.length ≤ 100 := (by omega); clear hot E5
                  go_wp2
                  go_loopw [13, 68] (fun _ v wr => ∃ k : Nat, v = .int .i64 k ∧ k ≤ m.out.length ∧ R = firstFrom numE m.out k ∧ Below w.heap.size w wr) (fun _ v _ => (m.out.length - intOf v).toNat)
                  case atStart => exact ⟨0, rfl, by omega, E6.out, hbw⟩
                  case round =>
                    obtain ⟨k, rfl, hk, he, hbx⟩ := hrel
                    clear E6 HK hbw HB0 c0 f0 z0; have HF := Lib.hid he; clear he
                    rcases Nat.lt_or_ge k m.out.length with hlt | hge
                    · obtain ⟨b, oo, n, hOA, hb, hp, q0⟩ := (HLO.out.below hbx).cellsI hlt
                      subst hOA
                      have HP := Lib.hid hp; clear hp
                      cases h1 : (n != Go.Proofs.YthmpnnfejghhfaaGreatDoor.wr n)
                      · have H := Lib.hid (show R = firstFrom numE m.out (k + 1) from HF.out.trans (firstFrom_ok HP.out (numE_ok h1)))
                        go_wp2_with (go_at_call 47; (with_reducible refine (c_num_Wrap _ _).mono ?_); rintro e w1 ⟨rfl, rfl⟩)
                        go_roundw
                        case rel => exact ⟨k + 1, by go_num, by omega, H.out, hbx⟩
                        case measure => simp [intOf]; omega
                      · have H := Lib.hid (show R = 1 from HF.out.trans ((firstFrom_no HP.out (numE_no h1)).trans (numE_one h1)))
                        go_wp2_with (go_at_call 47; (with_reducible refine (c_num_Wrap _ _).mono ?_); rintro e w1 ⟨rfl, rfl⟩)
                        go_returns
                        exact Ret.int H.out.symm hbx
                    · have H := Lib.hid (HF.out.trans (firstFrom_end hge))
                      go_wp2
                      go_returns
                      exact Ret.int H.out.symm hbx
        · have H := Lib.hid (E2.out.trans (by rw [seqE_no hmm]))
          exact az33
      · have H := Lib.hid (E1.out.trans (by rw [seqE_no hc]))
        go_wp2_with (go_at_call 45; refine am183 ?_; intro w1; intro HK hbw HB0 c0 f0 z0)
        go_returns
        exact Ret.int H.out.symm hbw
end Go.Proofs.YthmpnnfejghhfaaGreatDoor
namespace Go.Proofs.YthmpnnfejghhfaaGreatDoor
open Go.RowKit
set_option maxRecDepth 100000

section
variable {P : Program}
theorem run_storeVar_val (w : World) (b o : Nat) (ty : TypeId) (v : Value) (ht : w.there b o 1) (hi : (P.info? ty).map (·.size) = some 1) (h1 : v.oneCell' = true) :
    (storeVar ty ⟨b, o, none⟩ v).run P w = .ok () (w.setCells b o [v]) := by
  have := run_storeCells_cells (P := P) b o [v] 0 w (fun j hj => by simpa using (ht j (by simpa using hj)).1) (fun j hj => by simpa using (ht j (by simpa using hj)).2)
    (fun u hu => by simp at hu; subst hu; exact h1)
  have hc : v.cells = #[v] := by cases v <;> first | rfl | cases h1
  cases hq : P.info? ty with
  | none => simp [hq] at hi
  | some i =>
    have hs : i.size = 1 := (by simpa [hq] using hi); simp only [Nat.add_zero] at this
    simp [storeVar, sizeOf, typeInfo, hq, hc, hs, this]
theorem wp_store_val {o : Oper} {a : Act} {w : World} {K : Act → World → Prop} {Q : Exit → Act → World → Prop} (ty : TypeId) (x y : Operand) (ho : o.op = .store ty x y)
    {g p : Nat} {t : TypeId} {old : Array Value} {v : Value} (hg : Box w g t old) (hx : a.eval x = .pointer (some ⟨g, p, none⟩)) (hy : a.eval y = v) (h1 : v.oneCell' = true) {new : List Value} (hnew : old.toList.set p v = new) (hp : p < old.size) (hi : (P.info? ty).map (·.size) = some 1)
    (h : ∀ w', Box w' g t new.toArray → w.grownBy w' (some g) → w'.heap.size = w.heap.size → K (a.put o.dst undef) w') : o.wp P a w K Q := by
  subst hnew
  have hb := hg.set_ p v; have hcells : (w.setCells g p [v]) = w.setCell ⟨g, p, none⟩ v := rfl
  unfold Oper.wp execOp
  simp only [ho, hx, hy, Instr.storeAt, Instr.sureAddr, Sem.run_bind, Sem.run_pure, Result.andThen_ok, run_storeVar_val (P := P) w g p ty v (fun j hj => by
    obtain rfl : j = 0 := by omega
    rw [Nat.add_zero, hg.cell, hg.frozen, Array.getElem?_eq_getElem hp]
    exact ⟨rfl, rfl⟩) hi h1, hcells]
  refine h _ ?_ (grown_setCell _ _ _ _) (by simp [World.size_setCell]); have e : old.setIfInBounds p v = (old.toList.set p v).toArray := (by rw [← Array.toList_setIfInBounds])
  rw [← e]; exact hb
end
end Go.Proofs.YthmpnnfejghhfaaGreatDoor
namespace Go.Proofs.YthmpnnfejghhfaaGreatDoor
open Go.RowKit
set_option maxRecDepth 100000

theorem inR_wr (n : Int) : inR n (-2147483648) 2147483647 = !(n != wr n) := by
  rw [Bool.eq_iff_iff, inR_iff, bne, Bool.not_not, beq_iff_eq]
  constructor
  · rintro ⟨h1, h2⟩; rw [wr_eq h1 h2]
  · intro h; have := wr_lo n; have := wr_hi n; omega
theorem regs_lies {W : World} {g B : Nat} {t : TypeId} {mc : Array Value} {regs : List Val} (hb : Box W g t mc) (hreg : ∀ i v, regs[i]? = some v → ∀ j, j < 7 → mc[i * 7 + j]? = (encV v)[j]?) (hB : g < B) : Lies encV 7 W B (some ⟨g, 0, none⟩) regs :=
  fun _ => ⟨g, 0, rfl, hB, fun i v hv j hj => by rw [Nat.zero_add, hb.cell]; exact hreg i v hv j hj⟩
theorem wf_key {k : Key} (h : k.Wf) : (Val.mk true 0 k).Wf := ⟨by simp [i64], h⟩
theorem frameE_ref (f : Frame) : frameE f = seqE (valE ⟨true, 0, f.code⟩) (valE f.data) := by unfold frameE; rw [valE_key]
theorem KeptB.grown_ {w W W' : World} {bs : List (Array Value × TypeId)} {row : Option Nat} (h : KeptB w bs W) (hg : W.grownBy W' row) (hr : ∀ k, row = some k → w.heap.size + bs.length ≤ k) : KeptB w bs W' :=
  ⟨h.below.grown hg (Nat.le_trans (Nat.le_add_right _ _) h.size) (fun k hk => Nat.le_trans (Nat.le_add_right _ _) (hr k hk)), Nat.le_trans h.size hg.size, fun i c hi => (h.box i c hi).grown hg (fun he => by
    have h1 := hr _ he.symm
    have h2 := (List.getElem?_eq_some_iff.1 hi).1
    omega)⟩
set_option maxHeartbeats 4000000 in
theorem r_StepCheck (mc : Array Value) (m : Mach) (hwf : m.Wf) (w : World) (hm : MachV w w.heap.size mc m) :
    Calls Tryz.prog 30 #[.agg mc] w (Ret (.int .i64 (machE m)) w) := by
  obtain ⟨A, S, O, a, s, o, m56, m57, m58, m59, m60, m61, m62, m63, -, -, hs1, hs2, ho1, ho2, hLm, hLs, hLo, hreg⟩ := hm.cells; have hr8 := hm.regs; have HWF := Lib.hid hwf; have HREG := Lib.hid hreg; have HLM := Lib.hid hLm; have HLS := Lib.hid hLs; have HLO := Lib.hid hLo; have HR8 := Lib.hid hr8; clear hwf hm hreg hLm hLs hLo hr8; have E0 := machE_ref m
  generalize machE m = R at E0
  obtain ⟨al, hal⟩ : ∃ al, al = m.regs ++ [Val.mk true 0 m.code] := ⟨_, rfl⟩
  rw [← hal] at E0
  have hal9 : al.length = 9 := by rw [hal, List.length_append, HR8.out]; rfl
  have HALW := Lib.hid (show ∀ (i : Nat) v, al[i]? = some v → Val.Wf v from fun i v hv => by
    rw [hal] at hv
    rcases Nat.lt_or_ge i m.regs.length with h | h
    · rw [List.getElem?_append_left h] at hv; exact HWF.out.regs i v hv
    · rw [List.getElem?_append_right h] at hv
      have := (List.getElem?_eq_some_iff.1 hv).1
      simp only [List.length_cons, List.length_nil] at this; have h0 : i - m.regs.length = 0 := (by omega)
      rw [h0] at hv
      cases hv
      exact wf_key HWF.out.code)
  obtain ⟨REST, hrest⟩ : ∃ REST, REST = (seqE (memE m.mem) (if 16 < m.stack.length then 2 else seqE (firstE frameE m.stack) (if 100 < m.out.length then 2 else firstE numE m.out))) := ⟨_, rfl⟩
  rw [← hrest] at E0
  have HREST := Lib.hid hrest; have E0 := Lib.hid E0; clear hrest; have HAL := Lib.hid hal; have HAL9 := Lib.hid hal9; clear hal hal9
  go_enter Tryz.func30, Tryz.ntmps30
  have HK0 := Lib.hid (machB mc w); have c0 := fun o => (HK0.out.box 0 _ rfl).cell o; simp only [Nat.add_zero] at c0
  go_wp2_with (first | (at_builtin; refine wpList_app rfl _ _ rfl el_V (Own.nil_ (base := w.heap.size + 1)) (ys := m.regs) (regs_lies (HK0.out.box 0 _ rfl) HREG.out (Nat.lt_succ_self _)) rfl HR8.out rfl (by rw [HR8.out]; decide) (by rw [HR8.out]; decide) (by ((try simp only [World.size_alloc, World.size_setCell, World.size_drew]) <;> omega)) ?_; intro v1 w1 hO1 hg1 hat1; have HK1 := Lib.hid (HK0.out.on (Below.grown (Below.refl _ _) hg1 (Nat.le_refl _) (fun k hk => by simp [Value.ownBlock] at hk))); have z1 := hg1.size; simp only [World.size_alloc] at z1; clear c0; have c0 := fun o => (HK1.out.box 0 _ rfl).cell o; simp only [Nat.add_zero] at c0; have HO1 := Lib.hid hO1; clear hO1 hg1 hat1; dsimp only) | (at_builtin; refine wpList_app rfl _ _ rfl el_V (HO1.out.alloc _) (ys := [Val.mk true 0 m.code]) (Lies.one (enc := encV) _ _ _ (Val.mk true 0 m.code) rfl (fun j hj => by rw [List.getElem?_toArray]; rfl)) rfl rfl rfl (by simp only [List.nil_append, List.length_cons, List.length_nil]; rw [HR8.out]; decide) (by simp only [List.nil_append, List.length_cons, List.length_nil]; rw [HR8.out]; decide) (by ((try simp only [World.size_alloc, World.size_setCell, World.size_drew]) <;> omega)) ?_; intro v2 w2 hO2 hg2 hat2; have HK2 := Lib.hid ((HK1.out.alloc _).grown_ hg2 (fun k hk => (HO1.out.lt k hk).1)); rw [List.nil_append, ← HAL.out] at hO2; obtain ⟨A2, c2, rfl, hL2⟩ := hO2.lies (fun _ => rfl); have HL2 := Lib.hid hL2; clear hO2 hL2 hg2 hat2 c0; have HAL9 := HAL9; dsimp only) | fail)
  go_loopw [5, 6, 27] (fun _ _ v wr => ∃ k : Nat, v = .int .i64 k ∧ k ≤ al.length ∧ R = seqE (firstFrom valE al k) REST ∧ Below w2.heap.size w2 wr) (fun _ _ v _ => (al.length - intOf v).toNat)
  case atStart => exact ⟨0, rfl, by omega, E0.out, Below.refl _ _⟩
  case round =>
    obtain ⟨k, rfl, hk, he, hbx⟩ := hrel
    have HF := Lib.hid he; have HB := Lib.hid hbx; clear he E0 HK0 HK1 HO1
    rcases Nat.lt_or_ge k al.length with hlt | hge
    · obtain ⟨b, oo, v, hSA, hb, hp, q0, q1, q2, q3, q4, q5, q6⟩ := (HL2.out.below hbx).cellsV hlt
      subst hSA
      have HV := Lib.hid hp; have hk9 : k < 9 := (by have := HAL9.out; omega); clear hp
      cases hm : (valE v != 0)
      · have H := Lib.hid (HF.out.trans (by rw [firstFrom_ok HV.out hm]))
        go_wp2_with (go_at_call 53; refine am196 ?_; intro w3 HK hbw)
        go_roundw
        case rel => exact ⟨k + 1, by go_num, (by have := HAL9.out; omega), H.out, HK.out.below⟩
        case measure => (have := HAL9.out; simp [intOf]; omega)
      · have H := Lib.hid (HF.out.trans (by rw [firstFrom_no HV.out hm, seqE_no hm]))
        go_wp2_with (go_at_call 53; refine am196 ?_; intro w3 HK hbw)
        go_returns
        exact Ret.int H.out.symm (HK2.out.on hbw).below
    · have E2 := Lib.hid (HF.out.trans (by rw [firstFrom_end hge, seqE_ok rfl, HREST.out])); have hK := HK2.out.on HB.out; clear HF HK2 HB hbx HL2; have HKM := Lib.hid hK; clear hK; have hbw := HKM.out.below; have c0 := fun o => (HKM.out.box 0 _ rfl).cell o; have z0 := (HKM.out.box 0 _ rfl).lt; simp only [Nat.add_zero] at c0 z0
      obtain rfl : k = 9 := (by have := HAL9.out; omega)
      cases hmm : (memE m.mem != 0)
      · have E3 := Lib.hid (E2.out.trans (by rw [seqE_ok hmm])); clear E2
        by_cases hst : 16 < m.stack.length
        · have H := Lib.hid (E3.out.trans (by rw [if_pos hst]))
          exact az43
        · have E4 := Lib.hid (E3.out.trans (by rw [if_neg hst])); have hst' : m.stack.length ≤ 16 := (by omega); clear hst E3
          go_wp2_with (go_at_call 54; refine am194 ?_; intro w3; intro HK hbw HB0 c0 f0 z0)
          go_loopw [9, 11, 12, 50] (fun _ _ _ v wr => ∃ k : Nat, v = .int .i64 k ∧ k ≤ m.stack.length ∧ R = seqE (firstFrom frameE m.stack k) (if 100 < m.out.length then 2 else firstE numE m.out) ∧ KeptB w [(mc, 31)] wr) (fun _ _ _ v _ => (m.stack.length - intOf v).toNat)
          case atStart => exact ⟨0, rfl, by omega, E4.out, HK.out⟩
          case round =>
            obtain ⟨k, rfl, hk, he, hK⟩ := hrel
            clear E4 HK hbw HB0 c0 f0 z0 E0 HKM; (skip; have HK := Lib.hid hK; have hbw := hK.below; have HB0 := Lib.hid (hK.box 0 _ rfl); have c0 := fun o => HB0.out.cell o; have f0 := fun o => HB0.out.frozen o; have z0 := HB0.out.lt; (try dsimp only at c0); (try simp only [Nat.add_zero] at c0 f0 z0); clear hK); have HF := Lib.hid he; clear he
            rcases Nat.lt_or_ge k m.stack.length with hlt | hge
            · obtain ⟨b, oo, p, hSA, hb, hp, q0, q1, q2, q3, q4, q5, q6, q7, q8, q9, q10, q11⟩ := (HLS.out.below hbw).cellsF hlt
              subst hSA
              have HP := Lib.hid hp; clear hp c0 f0 m61 m62 m63; have hpw := HWF.out.stack _ _ HP.out; have HC := Lib.hid (wf_key hpw.code); have HD := Lib.hid hpw.data; clear hpw
              go_wp2
              refine wp_loop_rounds 3 ?_
              rw [rounds_succ]
              cases h1 : (valE ⟨true, 0, p.code⟩ != 0)
              · go_wp2_with ((go_at_call 53; refine am181 ?_; intro w4 hb hz z0 c0 f0); have HK4 := Lib.hid ((((HK.out.alloc _).alloc _).alloc _).on hb))
                rw [rounds_succ]
                cases h2 : (valE p.data != 0)
                · have H := Lib.hid (HF.out.trans (by rw [firstFrom_ok HP.out (by rw [frameE_ref, seqE_ok h1]; exact h2)]))
                  go_wp2_with ((go_at_call 53; refine am184 ?_; intro w5 hb hz z0 c0 f0); have HK5 := Lib.hid ((HK4.out.alloc _).on hb))
                  rw [rounds_succ]
                  go_wp2
                  go_roundw
                  case rel => exact ⟨k + 1, by go_num, by omega, H.out, HK5.out⟩
                  case measure => simp [intOf]; omega
                · have H := Lib.hid (show R = valE p.data from HF.out.trans (by rw [firstFrom_no HP.out (by rw [frameE_ref, seqE_ok h1]; exact h2), seqE_no (by rw [frameE_ref, seqE_ok h1]; exact h2), frameE_ref, seqE_ok h1]))
                  go_wp2_with ((go_at_call 53; refine am184 ?_; intro w5 hb hz z0 c0 f0); have HK5 := Lib.hid ((HK4.out.alloc _).on hb))
                  go_returns
                  exact Ret.int H.out.symm HK5.out.below
              · have H := Lib.hid (show R = valE ⟨true, 0, p.code⟩ from HF.out.trans (by rw [firstFrom_no HP.out (by rw [frameE_ref, seqE_no h1]; exact h1), seqE_no (by rw [frameE_ref, seqE_no h1]; exact h1), frameE_ref, seqE_no h1]))
                go_wp2_with ((go_at_call 53; refine am181 ?_; intro w4 hb hz z0 c0 f0); have HK4 := Lib.hid ((((HK.out.alloc _).alloc _).alloc _).on hb))
                go_returns
                exact Ret.int H.out.symm HK4.out.below
            · have E5 := Lib.hid (HF.out.trans (by rw [firstFrom_end hge, seqE_ok rfl])); clear HF
              by_cases hot : 100 < m.out.length
              · have H := Lib.hid (E5.out.trans (by rw [if_pos hot]))
                go_wp2
                go_returns
                exact Ret.int H.out.symm hbw
              · have E6 := Lib.hid (E5.out.trans (by rw [if_neg hot])); have hot' : m.out.length ≤ 100 := (by omega); clear hot E5
                go_wp2
                go_loopw [14, 79] (fun _ v wr => ∃ k : Nat, v = .int .i64 k ∧ k ≤ m.out.length ∧ R = firstFrom numE m.out k ∧ Below w.heap.size w wr) (fun _ v _ => (m.out.length - intOf v).toNat)
                case atStart => exact ⟨0, rfl, by omega, E6.out, hbw⟩
                case round =>
                  obtain ⟨k, rfl, hk, he, hbx⟩ := hrel
                  clear E6 HK hbw HB0 c0 f0 z0; have HF := Lib.hid he; clear he
                  rcases Nat.lt_or_ge k m.out.length with hlt | hge
                  · obtain ⟨b, oo, n, hOA, hb, hp, q0⟩ := (HLO.out.below hbx).cellsI hlt
                    subst hOA
                    have HP := Lib.hid hp; have HN := inR_wr n; clear hp
                    cases h1 : (n != Go.Proofs.YthmpnnfejghhfaaGreatDoor.wr n)
                    · have H := Lib.hid (show R = firstFrom numE m.out (k + 1) from HF.out.trans (firstFrom_ok HP.out (numE_ok h1)))
                      rw [h1] at HN
                      go_wp2_with (go_at_call 55; (with_reducible refine (r_IsNumber _ _).mono ?_); rintro e w1 ⟨rfl, rfl⟩)
                      go_roundw
                      case rel => exact ⟨k + 1, by go_num, by omega, H.out, hbx⟩
                      case measure => simp [intOf]; omega
                    · have H := Lib.hid (show R = 1 from HF.out.trans ((firstFrom_no HP.out (numE_no h1)).trans (numE_one h1)))
                      rw [h1] at HN
                      go_wp2_with (go_at_call 55; (with_reducible refine (r_IsNumber _ _).mono ?_); rintro e w1 ⟨rfl, rfl⟩)
                      go_returns
                      exact Ret.int H.out.symm hbx
                  · have H := Lib.hid (HF.out.trans (firstFrom_end hge))
                    go_wp2
                    go_returns
                    exact Ret.int H.out.symm hbx
      · have H := Lib.hid (E2.out.trans (by rw [seqE_no hmm]))
        exact az43
end Go.Proofs.YthmpnnfejghhfaaGreatDoor
namespace Go.Proofs.YthmpnnfejghhfaaGreatDoor
open Go.ChangeShapes Go.WideShapes Go.RowKit Go.Deep
set_option maxRecDepth 100000

theorem chunks {α : Type} {enc : α → List Value} {Wf : α → Prop} {size : Nat} {n : Nat} {cs : List Value} (hl : cs.length = n * size)
    (h : ∀ i, i < n → ∃ k : α, Wf k ∧ (cs.drop (i * size)).take size = enc k) : ∃ xs : List α, xs.length = n ∧ (∀ (i : Nat) v, xs[i]? = some v → Wf v) ∧ cs = xs.flatMap enc := by
  induction n generalizing cs with
  | zero => exact ⟨[], rfl, fun i v hv => by simp at hv, by simpa using List.length_eq_zero_iff.1 (by simpa using hl)⟩
  | succ n ih =>
    obtain ⟨k, hk, he⟩ := h 0 (by omega)
    rw [Nat.zero_mul, List.drop_zero] at he
    obtain ⟨xs, h1, h2, h3⟩ := ih (cs := cs.drop size) (by rw [List.length_drop, hl, Nat.succ_mul]; omega) (fun i hi => by
      obtain ⟨k, hk, he⟩ := h (i + 1) (by omega)
      exact ⟨k, hk, by rw [List.drop_drop, ← he, Nat.succ_mul, Nat.add_comm]⟩)
    refine ⟨k :: xs, by rw [List.length_cons, h1], fun i v hv => ?_, ?_⟩
    · match i, hv with
      | 0, hv => simp at hv; subst hv; exact hk
      | i + 1, hv => exact h2 i v (by simpa using hv)
    · rw [List.flatMap_cons, ← he, ← h3, List.take_append_drop]
section
variable {H : Type} {enc : TypeId × Value → H} {w : World} {base : Nat} {sp : Nat → Bool} {held : Bool}
theorem cells_regs : Tryz.prog.cellsOf 26 = 56 := by kernel_rfl
theorem cells_frames : Tryz.prog.cellsOf 28 = 1 := by kernel_rfl
theorem cells_outs : Tryz.prog.cellsOf 29 = 1 := by kernel_rfl
theorem open_mach {r : Reach} {b0 : Nat} {v : Value} {d : DataW H} {ps : List MemPlace} (hval : Value.okWide Tryz.prog w r b0 31 v) (h : DataW.Trod enc Tryz.prog w base sp held 31 v d ps) :
    ∃ (mc : Array Value) (m : Mach), v = .agg mc ∧ m.Wf ∧ MachV w w.heap.size mc m := by
  obtain ⟨cs, rfl, hsz⟩ := okWide_struct Tryz.underlying31 hval
  obtain ⟨fuel, hf0⟩ := h; obtain ⟨l⟩ := cs
  obtain ⟨ys, n, rfl, _, hl, hx, hf⟩ := DataW.trod_struct Tryz.underlying31 hf0
  have hl' : l.length = 64 := hl.trans (by kernel_rfl); have hx' : ys.length = 5 := hx; obtain ⟨y0, e0⟩ := some_at hx' (i := 0) (by omega); obtain ⟨y1, e1⟩ := some_at hx' (i := 1) (by omega); obtain ⟨y2, e2⟩ := some_at hx' (i := 2) (by omega); obtain ⟨y3, e3⟩ := some_at hx' (i := 3) (by omega); obtain ⟨y4, e4⟩ := some_at hx' (i := 4) (by omega); have g0 : DataW.trod enc Tryz.prog w base sp held n 26 ((l.drop 0).take 56) = some y0 := field_at hf (i := 0) rfl rfl rfl cells_regs e0; have g1 : DataW.trod enc Tryz.prog w base sp held n 23 ((l.drop 56).take 5) = some y1 := field_at hf (i := 1) rfl rfl rfl cells_key e1; have g2 : DataW.trod enc Tryz.prog w base sp held n 27 ((l.drop 61).take 1) = some y2 := field_at hf (i := 2) rfl rfl rfl cells_vals e2; have g3 : DataW.trod enc Tryz.prog w base sp held n 28 ((l.drop 62).take 1) = some y3 := field_at hf (i := 3) rfl rfl rfl cells_frames e3; have g4 : DataW.trod enc Tryz.prog w base sp held n 29 ((l.drop 63).take 1) = some y4 := field_at hf (i := 4) rfl rfl rfl cells_outs e4
  obtain ⟨rs, hr1, hr2, hr3⟩ : ∃ rs : List Val, rs.length = 8 ∧ (∀ (i : Nat) v, rs[i]? = some v → Val.Wf v) ∧ (l.drop 0).take 56 = rs.flatMap encV := by
    obtain ⟨xs, m, _, _, hlen, hxl, hi⟩ := DataW.trod_array Tryz.underlying26 g0; refine chunks (size := 7) (by rw [hlen, cells_regs]) fun i hlt => ?_; have h1 := hi i hlt
    rw [cells_val, List.getElem?_eq_getElem (by omega)] at h1
    obtain ⟨v, hv, he⟩ := trod_val h1
    exact ⟨v, hv, he⟩
  obtain ⟨k, hk, hkc⟩ := trod_key g1; obtain ⟨A, c, xs, h0, h1, h2, h3, h4⟩ := rows_of_cs (enc := encV) (Wf := Val.Wf) (size := 7) Tryz.underlying27 cells_val (by decide) trod_val (fun _ => rfl) g2; obtain ⟨S, s, ss, s0, s1, s2, s3, s4⟩ := rows_of_cs (enc := encF) (Wf := Frame.Wf) (size := 12) Tryz.underlying28 cells_Frame (by decide) trod_Frame (fun _ => rfl) g3
  obtain ⟨O, o, os, o0, o1, o2, o3, o4⟩ := rows_of_cs (enc := encI) (Wf := i64) (size := 1) Tryz.underlying29 cells_int (by decide) (fun h => by obtain ⟨n, z, _, wf⟩ := DataW.trod_int Tryz.underlying3 h; exact ⟨n, i64_of_wf wf, z⟩) (fun _ => rfl) g4
  refine ⟨_, ⟨rs, k, xs, ss, os⟩, rfl, ⟨hr2, hk, h3, s3, o3⟩, ⟨⟨A, S, O, c, s, o, ?_, h1, h2, s1, s2, o1, o2, h4, s4, o4⟩, hr1⟩⟩; refine congrArg List.toArray ?_; have t1 : l = (l.drop 0).take 56 ++ l.drop 56 := (by rw [List.drop_zero, List.take_append_drop]); have t2 : l.drop 56 = (l.drop 56).take 5 ++ l.drop 61 := (List.take_append_drop 5 (l.drop 56)).symm.trans (by rw [List.drop_drop]); have t3 : l.drop 61 = (l.drop 61).take 1 ++ l.drop 62 := (List.take_append_drop 1 (l.drop 61)).symm.trans (by rw [List.drop_drop]); have t4 : l.drop 62 = (l.drop 62).take 1 ++ l.drop 63 := (List.take_append_drop 1 (l.drop 62)).symm.trans (by rw [List.drop_drop]); have t5 : l.drop 63 = (l.drop 63).take 1 ++ [] := (by rw [List.append_nil, List.take_of_length_le (by rw [List.length_drop]; omega)])
  rw [hr3] at t1
  rw [hkc] at t2
  rw [h0] at t3
  rw [s0] at t4
  rw [o0] at t5
  rw [t5] at t4
  rw [t4] at t3
  rw [t3] at t2
  rw [t2] at t1
  rw [t1]
  rfl
end
end Go.Proofs.YthmpnnfejghhfaaGreatDoor
