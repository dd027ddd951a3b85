/- What the parts say: Machines, read as plain data; what Check says of one. Conditions: none. -/
import Derived.Test.YtbkjhdohkdeniaaGreatDoorP03
import Derived.Test.YtbkjhdohkdeniaaGreatDoorP07
import Derived.Test.YtbkjhdohkdeniaaGreatDoorP09
import Derived.Test.YtbkjhdohkdeniaaGreatDoorP10
import Derived.LoopN
set_option linter.unusedVariables false
set_option linter.unusedSimpArgs false
namespace Go.Proofs.YtbkjhdohkdeniaaGreatDoor
open Go.ChangeShapes Go.WideShapes Go.RowKit Go.Deep
set_option maxRecDepth 100000
structure Frame where
  code : Key
  data : Val
theorem Frame.ext_iff' {a b : Frame} : (a.code = b.code ∧ a.data = b.data) ↔ a = b := by
  constructor
  · rintro ⟨h0, h1⟩
    cases a; cases b; simp_all
  · rintro rfl; exact ⟨rfl, rfl⟩
instance : DecidableEq Frame := fun a b => decidable_of_iff (a.code = b.code ∧ a.data = b.data) Frame.ext_iff'
structure Frame.Wf (k : Frame) : Prop where
  code : k.code.Wf
  data : k.data.Wf
def encF (x : Frame) : List Value := [.int .i64 x.code.perm, .int .i64 x.code.base, .int .i64 x.code.len, .int .i64 x.code.pos, .int .i64 x.code.tag, .bool x.data.is, .int .i64 x.data.n, .int .i64 x.data.key.perm, .int .i64 x.data.key.base, .int .i64 x.data.key.len, .int .i64 x.data.key.pos, .int .i64 x.data.key.tag]
section
variable {H : Type} {enc : TypeId × Value → H} {w : World} {base : Nat} {sp : Nat → Bool} {held : Bool}
end
structure Mach where
  regs : List Val
  code : Key
  mem : List Val
  stack : List Frame
  out : List Int
structure Mach.Wf (m : Mach) : Prop where
  regs : ∀ (i : Nat) v, m.regs[i]? = some v → Val.Wf v
  code : m.code.Wf
  mem : ∀ (i : Nat) v, m.mem[i]? = some v → Val.Wf v
  stack : ∀ (i : Nat) v, m.stack[i]? = some v → Frame.Wf v
  out : ∀ (i : Nat) n, m.out[i]? = some n → i64 n
def machL (regs : List Val) (k : Key) (a b c : Value) : List Value := regs.flatMap encV ++ ([.int .i64 k.perm, .int .i64 k.base, .int .i64 k.len, .int .i64 k.pos, .int .i64 k.tag] ++ [a, b, c])
section
variable {regs : List Val} {k : Key} {a b c : Value}
theorem machL_reg (hl : regs.length = 8) {i j : Nat} {v : Val} (hv : regs[i]? = some v) (hj : j < 7) : (machL regs k a b c)[i * 7 + j]? = (encV v)[j]? := by
  have hlen := flat_len (xs := regs) (enc := encV) (size := 7) (fun _ => rfl)
  have hi : i < 8 := by have := (List.getElem?_eq_some_iff.1 hv).1; omega
  unfold machL
  rw [List.getElem?_append_left (by omega)]
  exact flat_at (enc := encV) (size := 7) (fun _ => rfl) hv hj
theorem machL_tail (hl : regs.length = 8) (j : Nat) : (machL regs k a b c)[56 + j]? = ([.int .i64 k.perm, .int .i64 k.base, .int .i64 k.len, .int .i64 k.pos, .int .i64 k.tag] ++ [a, b, c])[j]? := by
  have hlen := flat_len (xs := regs) (enc := encV) (size := 7) (fun _ => rfl)
  unfold machL
  rw [List.getElem?_append_right (by omega), show 56 + j - (regs.flatMap encV).length = j by omega]
theorem machL_length (hl : regs.length = 8) : (machL regs k a b c).length = 64 := by
  have hlen := flat_len (xs := regs) (enc := encV) (size := 7) (fun _ => rfl)
  unfold machL
  rw [List.length_append, hlen, hl]; rfl
end
structure MachV (w : World) (B : Nat) (mc : Array Value) (m : Mach) : Prop where
  ex : ∃ (A S O : Option Addr) (a s o : Nat), mc = (machL m.regs m.code (.slice A m.mem.length a) (.slice S m.stack.length s) (.slice O m.out.length o)).toArray ∧ m.mem.length ≤ a ∧ a ≤ maxLen ∧ m.stack.length ≤ s ∧ s ≤ maxLen ∧ m.out.length ≤ o ∧ o ≤ maxLen ∧
    Lies encV 7 w B A m.mem ∧ Lies encF 12 w B S m.stack ∧ Lies encI 1 w B O m.out
  regs : m.regs.length = 8
theorem MachV.below {w w' : World} {B : Nat} {mc : Array Value} {m : Mach} (h : MachV w B mc m) (hb : Below B w w') : MachV w' B mc m := by
  obtain ⟨A, S, O, a, s, o, h0, h1, h2, h3, h4, h5, h6, h7, h8, h9⟩ := h.ex
  exact ⟨⟨A, S, O, a, s, o, h0, h1, h2, h3, h4, h5, h6, h7.below hb, h8.below hb, h9.below hb⟩, h.regs⟩
theorem MachV.more {w : World} {B B' : Nat} {mc : Array Value} {m : Mach} (h : MachV w B mc m) (hB : B ≤ B') : MachV w B' mc m := by
  obtain ⟨A, S, O, a, s, o, h0, h1, h2, h3, h4, h5, h6, h7, h8, h9⟩ := h.ex
  exact ⟨⟨A, S, O, a, s, o, h0, h1, h2, h3, h4, h5, h6, h7.more hB, h8.more hB, h9.more hB⟩, h.regs⟩
theorem MachV.size {w : World} {B : Nat} {mc : Array Value} {m : Mach} (h : MachV w B mc m) : mc.size = 64 := by
  obtain ⟨A, S, O, a, s, o, h0, _⟩ := h.ex
  rw [h0, List.size_toArray, machL_length h.regs]
theorem MachV.cells {w : World} {B : Nat} {mc : Array Value} {m : Mach} (h : MachV w B mc m) : ∃ (A S O : Option Addr) (a s o : Nat),
    mc[56]? = some (.int .i64 m.code.perm) ∧ mc[57]? = some (.int .i64 m.code.base) ∧ mc[58]? = some (.int .i64 m.code.len) ∧ mc[59]? = some (.int .i64 m.code.pos) ∧ mc[60]? = some (.int .i64 m.code.tag) ∧
    mc[61]? = some (.slice A m.mem.length a) ∧ mc[62]? = some (.slice S m.stack.length s) ∧ mc[63]? = some (.slice O m.out.length o) ∧ m.mem.length ≤ a ∧ a ≤ maxLen ∧ m.stack.length ≤ s ∧ s ≤ maxLen ∧ m.out.length ≤ o ∧ o ≤ maxLen ∧
    Lies encV 7 w B A m.mem ∧ Lies encF 12 w B S m.stack ∧ Lies encI 1 w B O m.out ∧ (∀ i v, m.regs[i]? = some v → ∀ j, j < 7 → mc[i * 7 + j]? = (encV v)[j]?) := by
  obtain ⟨A, S, O, a, s, o, h0, h1, h2, h3, h4, h5, h6, h7, h8, h9⟩ := h.ex
  have ht := fun j => machL_tail (k := m.code) (a := .slice A m.mem.length a) (b := .slice S m.stack.length s) (c := .slice O m.out.length o) h.regs j
  refine ⟨A, S, O, a, s, o, ?_, ?_, ?_, ?_, ?_, ?_, ?_, ?_, h1, h2, h3, h4, h5, h6, h7, h8, h9, fun i v hv j hj => by rw [h0, List.getElem?_toArray]; exact machL_reg h.regs hv hj⟩ <;> rw [h0, List.getElem?_toArray]
  · exact ht 0
  · exact ht 1
  · exact ht 2
  · exact ht 3
  · exact ht 4
  · exact ht 5
  · exact ht 6
  · exact ht 7

def seqE (a b : Int) : Int := if (a != 0) = true then a else b
theorem seqE_no {a b : Int} (h : (a != 0) = true) : seqE a b = a := by unfold seqE; rw [if_pos h]
theorem seqE_ok {a b : Int} (h : (a != 0) = false) : seqE a b = b := by unfold seqE; rw [if_neg (by simp [h])]
def frameE (f : Frame) : Int := seqE (keyE f.code) (valE f.data)
def numE (n : Int) : Int := if (n == wr n) = true then 0 else 1
def machE (m : Mach) : Int := seqE (firstE valE m.regs) (seqE (keyE m.code) (seqE (memE m.mem) (if 16 < m.stack.length then 2 else seqE (firstE frameE m.stack) (if 100 < m.out.length then 2 else firstE numE m.out))))
end Go.Proofs.YtbkjhdohkdeniaaGreatDoor
namespace Go.Proofs.YtbkjhdohkdeniaaGreatDoor
open Go.RowKit
set_option maxRecDepth 100000

section
variable {w w' : World} {g : Nat} {t : TypeId} {cs : Array Value}
theorem Box.setCells : ∀ (us : List Value) (p : Nat) (cs : Array Value) (w : World), Box w g t cs → Box (w.setCells g p us) g t (setMany cs.toList p us).toArray
  | [], _, cs, _, h => by rw [setMany]; exact h
  | u :: us, p, cs, w, h => by
    have := Box.setCells us (p + 1) _ _ (h.set_ p u)
    rw [Array.toList_setIfInBounds] at this
    exact this
end
section
variable {P : Program}
end
section
variable {regs : List Val} {k k' : Key} {a b c : Value}
end
theorem grown_setCell (w : World) (g i : Nat) (u : Value) : w.grownBy (w.setCell ⟨g, i, none⟩ u) (some g) := ⟨rfl, rfl, rfl, by simp [World.size_setCell], fun k hk hne => Below.heap_setCell w _ u k (fun e => hne (by rw [e]))⟩
def Mach.zero : Mach := ⟨List.replicate 8 ⟨false, 0, Key.zero⟩, Key.zero, [], [], []⟩
def nilS : Value := .slice none 0 0
theorem MachV.zero (w : World) (B : Nat) : MachV w B (machL (List.replicate 8 ⟨false, 0, Key.zero⟩) Key.zero nilS nilS nilS).toArray Mach.zero :=
  ⟨⟨none, none, none, 0, 0, 0, rfl, by decide, by decide, by decide, by decide, by decide, by decide, Lies.nil_, Lies.nil_, Lies.nil_⟩, rfl⟩
end Go.Proofs.YtbkjhdohkdeniaaGreatDoor
namespace Go.Proofs.YtbkjhdohkdeniaaGreatDoor
open Go.RowKit
set_option maxRecDepth 100000

section
variable {P : Program}
theorem run_storeVar_val (w : World) (b o : Nat) (ty : TypeId) (v : Value) (ht : w.there b o 1) (hi : (P.info? ty).map (·.size) = some 1) (h1 : v.oneCell' = true) :
    (storeVar ty ⟨b, o, none⟩ v).run P w = .ok () (w.setCells b o [v]) := by
  have := run_storeCells_cells (P := P) b o [v] 0 w (fun j hj => by simpa using (ht j (by simpa using hj)).1) (fun j hj => by simpa using (ht j (by simpa using hj)).2)
    (fun u hu => by simp at hu; subst hu; exact h1)
  have hc : v.cells = #[v] := by cases v <;> first | rfl | cases h1
  cases hq : P.info? ty with
  | none => simp [hq] at hi
  | some i =>
    have hs : i.size = 1 := by simpa [hq] using hi
    simp only [Nat.add_zero] at this
    simp [storeVar, sizeOf, typeInfo, hq, hc, hs, this]
theorem wp_store_val {o : Oper} {a : Act} {w : World} {K : Act → World → Prop} {Q : Exit → Act → World → Prop} (ty : TypeId) (x y : Operand) (ho : o.op = .store ty x y)
    {g p : Nat} {t : TypeId} {old : Array Value} {v : Value} (hg : Box w g t old) (hx : a.eval x = .pointer (some ⟨g, p, none⟩)) (hy : a.eval y = v) (h1 : v.oneCell' = true) {new : List Value} (hnew : old.toList.set p v = new) (hp : p < old.size) (hi : (P.info? ty).map (·.size) = some 1)
    (h : ∀ w', Box w' g t new.toArray → w.grownBy w' (some g) → w'.heap.size = w.heap.size → K (a.put o.dst undef) w') : o.wp P a w K Q := by
  subst hnew
  have hb := hg.set_ p v
  have hcells : (w.setCells g p [v]) = w.setCell ⟨g, p, none⟩ v := rfl
  unfold Oper.wp execOp
  simp only [ho, hx, hy, Instr.storeAt, Instr.sureAddr, Sem.run_bind, Sem.run_pure, Result.andThen_ok, run_storeVar_val (P := P) w g p ty v (fun j hj => by
    obtain rfl : j = 0 := by omega
    rw [Nat.add_zero, hg.cell, hg.frozen, Array.getElem?_eq_getElem hp]
    exact ⟨rfl, rfl⟩) hi h1, hcells]
  refine h _ ?_ (grown_setCell _ _ _ _) (by simp [World.size_setCell])
  have e : old.setIfInBounds p v = (old.toList.set p v).toArray := by rw [← Array.toList_setIfInBounds]
  rw [← e]; exact hb
end
end Go.Proofs.YtbkjhdohkdeniaaGreatDoor
namespace Go.Proofs.YtbkjhdohkdeniaaGreatDoor
open Go.RowKit
set_option maxRecDepth 100000
section
variable {regs : List Val} {k : Key} {a b c : Value}
theorem info_mach (hl : regs.length = 8) : (Tryz.prog.info? 81).map (·.size) = some (machL regs k a b c).toArray.size := by rw [List.size_toArray, machL_length hl]; kernel_rfl
end
theorem Lies.off {α : Type} {enc : α → List Value} {size : Nat} {w w' : World} {B g : Nat} {A : Option Addr} {xs : List α} (h : Lies enc size w B A xs) (hg : w.grownBy w' (some g)) (hB : B ≤ w.heap.size) (hne : ∀ b o, A = some ⟨b, o, none⟩ → b ≠ g) : Lies enc size w' B A xs := fun hn => by
  obtain ⟨b, o, hA, hb, hc⟩ := h hn
  exact ⟨b, o, hA, hb, fun i x hi j hj => (World.cell?_of_block (w := w) (hg.block b (by omega) (fun e => hne b o hA (by injection e)))).trans (hc i x hi j hj)⟩
theorem Own.cap {α : Type} {enc : α → List Value} {e : TypeId} {size base : Nat} {w : World} {A : Option Addr} {n c : Nat} {xs : List α} (h : Own enc e size w base (.slice A n c) xs) : xs.length ≤ c ∧ c ≤ maxLen := by
  rcases h.2 with ⟨hv, h0⟩ | ⟨g, cap, cur, hv, _, _, h1, h2, _⟩
  · injection hv with _ _ hc
    rw [h0, hc]; exact ⟨Nat.le_refl _, by decide⟩
  · injection hv with _ _ hc
    rw [hc]; exact ⟨h1, h2⟩
end Go.Proofs.YtbkjhdohkdeniaaGreatDoor
namespace Go.Proofs.YtbkjhdohkdeniaaGreatDoor
open Go.RowKit
set_option maxRecDepth 100000

theorem firstE_of {α : Type} {f : α → Int} {l : List α} (h : ∀ x ∈ l, f x = 0) : (firstE f l != 0) = false := by
  induction l with
  | nil => rfl
  | cons y l ih =>
    rw [firstE, h y (by simp)]
    exact ih fun x hx => h x (by simp [hx])
theorem seqE_zero {a b : Int} : (seqE a b != 0) = false ↔ (a != 0) = false ∧ (b != 0) = false := by
  cases h : (a != 0)
  · rw [seqE_ok h]; simp
  · rw [seqE_no h, h]; simp
structure MachOk (m : Mach) : Prop where
  regs : ∀ v ∈ m.regs, valE v = 0
  code : keyOk m.code = true
  len : m.mem.length ≤ 400
  mem : ∀ v ∈ m.mem, valE v = 0
  deep : m.stack.length ≤ 16
  stack : ∀ f ∈ m.stack, keyOk f.code = true ∧ valE f.data = 0
  outs : m.out.length ≤ 100
  out : ∀ n ∈ m.out, n = wr n
theorem MachOk.zero {m : Mach} (h : MachOk m) : (machE m != 0) = false := by
  unfold machE
  refine seqE_zero.2 ⟨firstE_of h.regs, seqE_zero.2 ⟨by rw [keyE_ok h.code]; rfl, seqE_zero.2 ⟨?_, ?_⟩⟩⟩
  · unfold memE
    rw [if_neg (by have := h.len; omega)]
    exact firstE_of h.mem
  · rw [if_neg (by have := h.deep; omega)]
    refine seqE_zero.2 ⟨firstE_of fun f hf => ?_, ?_⟩
    · unfold frameE
      rw [keyE_ok (h.stack f hf).1, seqE_ok rfl, (h.stack f hf).2]
    · rw [if_neg (by have := h.outs; omega)]
      refine firstE_of fun n hn => ?_
      unfold numE
      rw [if_pos (by have := h.out n hn; simpa using this)]
end Go.Proofs.YtbkjhdohkdeniaaGreatDoor
namespace Go.Proofs.YtbkjhdohkdeniaaGreatDoor
open Go.RowKit
set_option maxRecDepth 100000

end Go.Proofs.YtbkjhdohkdeniaaGreatDoor
namespace Go.Proofs.YtbkjhdohkdeniaaGreatDoor
open Go.RowKit
set_option maxRecDepth 100000

theorem inR_wr (n : Int) : inR n (-2147483648) 2147483647 = !(n != wr n) := by
  rw [Bool.eq_iff_iff, inR_iff, bne, Bool.not_not, beq_iff_eq]
  constructor
  · rintro ⟨h1, h2⟩; rw [wr_eq h1 h2]
  · intro h; have := wr_lo n; have := wr_hi n; omega
end Go.Proofs.YtbkjhdohkdeniaaGreatDoor
