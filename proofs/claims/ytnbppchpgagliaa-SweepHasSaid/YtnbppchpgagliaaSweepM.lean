/- Sweeping as plain data: which keys are struck, how many, and what the machine is behind it. Conditions: none. -/
import Derived.Test.YtnbppchpgagliaaMachOk
namespace Go.Proofs.Ytnbppchpgagliaa
open Go.RowKit
set_option linter.unusedVariables false
set_option linter.unusedSimpArgs false
set_option maxRecDepth 100000

/-- is a key for one of n cells from base on? -/
def hitK (base n : Int) (k : Key) : Bool := decide (0 < k.len) && decide (0 < n) && decide (k.base < base + n) && decide (base < k.base + k.len)
theorem hitK_iff {base n : Int} {k : Key} : hitK base n k = true ↔ 0 < k.len ∧ 0 < n ∧ k.base < base + n ∧ base < k.base + k.len := by
  simp [hitK, and_assoc]
def hitV (base n : Int) (v : Val) : Bool := v.is && hitK base n v.key
def swK (base n : Int) (k : Key) : Key := if hitK base n k = true then Key.zero else k
def swV (base n : Int) (v : Val) : Val := if hitV base n v = true then ⟨false, 0, Key.zero⟩ else v
def swF (base n : Int) (f : Frame) : Frame := ⟨swK base n f.code, swV base n f.data⟩
def one01 (b : Bool) : Int := if b = true then 1 else 0
theorem one01_bd (b : Bool) : 0 ≤ one01 b ∧ one01 b ≤ 1 := by cases b <;> decide
/-- how many of a list -/
def sumL {α : Type} (f : α → Int) : List α → Int
  | [] => 0
  | x :: l => f x + sumL f l
theorem sumL_append {α : Type} (f : α → Int) (l r : List α) : sumL f (l ++ r) = sumL f l + sumL f r := by
  induction l with
  | nil => simp [sumL]
  | cons x l ih => simp [sumL, ih]; omega
theorem sumL_take {α : Type} {f : α → Int} {l : List α} {k : Nat} {x : α} (h : l[k]? = some x) : sumL f (l.take (k + 1)) = sumL f (l.take k) + f x := by
  rw [List.take_add_one, h, sumL_append]
  simp [sumL]
theorem sumL_bd {α : Type} {f : α → Int} {c : Int} (hc : ∀ x, 0 ≤ f x ∧ f x ≤ c) (l : List α) : 0 ≤ sumL f l ∧ sumL f l ≤ c * l.length := by
  induction l with
  | nil => simp [sumL]
  | cons x l ih =>
    have := hc x
    rw [sumL, List.length_cons, Int.natCast_add, Int.mul_add]
    constructor
    · omega
    · have e : c * ((1 : Nat) : Int) = c := by simp
      omega
def cntV (base n : Int) (v : Val) : Int := one01 (hitV base n v)
def cntK (base n : Int) (k : Key) : Int := one01 (hitK base n k)
def cntF (base n : Int) (f : Frame) : Int := cntK base n f.code + cntV base n f.data
/-- a list of which the first k are turned -/
def upto {α : Type} (f : α → α) (l : List α) (k : Nat) : List α := (l.take k).map f ++ l.drop k
section
variable {α : Type} {f : α → α} {l : List α} {k : Nat} {x : α}
theorem upto_zero : upto f l 0 = l := by simp [upto]
theorem upto_end (h : l.length ≤ k) : upto f l k = l.map f := by
  unfold upto
  rw [List.take_of_length_le h, List.drop_eq_nil_of_le h, List.append_nil]
theorem upto_len : (upto f l k).length = l.length := by simp [upto]; omega
theorem upto_at (h : l[k]? = some x) : (upto f l k)[k]? = some x := by
  have hk := (List.getElem?_eq_some_iff.1 h).1
  unfold upto
  rw [List.getElem?_append_right (by simp; omega)]
  simp [List.getElem?_drop, Nat.min_eq_left (Nat.le_of_lt hk), h]
theorem upto_step (h : l[k]? = some x) : (upto f l k).set k (f x) = upto f l (k + 1) := by
  have hk := (List.getElem?_eq_some_iff.1 h).1
  unfold upto
  have hlen : ((l.take k).map f).length = k := by simp; omega
  rw [List.set_append_right (h := by omega), hlen, Nat.sub_self, List.drop_eq_getElem_cons hk, List.set_cons_zero, List.take_add_one, h]
  simp
end
def sweepM (base n : Int) (m : Mach) : Mach := ⟨m.regs.map (swV base n), swK base n m.code, m.mem.map (swV base n), m.stack.map (swF base n), m.out⟩
def sweepN (base n : Int) (m : Mach) : Int := cntK base n m.code + sumL (cntV base n) m.regs + sumL (cntV base n) m.mem + sumL (cntF base n) m.stack
def argsOk (base n : Int) : Bool := inR base 0 400 && inR n 0 (400 - base)
/-- Sweep: the machine, how many, the number told -/
def sweepA (base n : Int) (m : Mach) : Mach × Int × Int :=
  if (machE m != 0) = true then (Mach.zero, 0, machE m) else if argsOk base n = true then (sweepM base n m, sweepN base n m, 0) else (Mach.zero, 0, 1)
end Go.Proofs.Ytnbppchpgagliaa
