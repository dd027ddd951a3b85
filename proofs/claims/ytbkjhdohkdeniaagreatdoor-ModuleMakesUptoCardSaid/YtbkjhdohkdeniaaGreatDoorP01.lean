/- What the parts say: The words that all contracts of this seat share: what a call that only makes new memory leaves behind, and small lemmas. Conditions: none. -/
import Derived.Test.YtbkjhdohkdeniaaGreatDoorProg
import Derived.WalkKit
import Derived.Outline
import Derived.WalkLawsBesides
import Derived.WalkSpells
import Derived.Deep.QuietTactic
import Derived.BigQuiet
import Derived.Lib.Hide
import Derived.Deep.RegionHeld3
import Derived.Deep.LoopGhost
import Derived.Deep.DeepFit
import Derived.Handy
import Derived.Deep.Quiet
set_option linter.unusedVariables false
set_option linter.unusedSimpArgs false
namespace Go.Proofs.YtbkjhdohkdeniaaGreatDoor
open Go.RowKit

def Ret (v : Value) (w : World) : Ending → World → Prop := fun e w' => e = .returned v ∧ Below w.heap.size w w'
theorem Ret.mk {v v' : Value} {w w' : World} (h : v' = v) (hb : Below w.heap.size w w') : Ret v w (.returned v') w' := ⟨by rw [h], hb⟩
theorem Ret.int {k : IntKind} {a b : Int} {w w' : World} (h : b = a) (hb : Below w.heap.size w w') : Ret (.int k a) w (.returned (.int k b)) w' := ⟨by rw [h], hb⟩
theorem Ret.bool {a b : Bool} {w w' : World} (h : b = a) (hb : Below w.heap.size w w') : Ret (.bool a) w (.returned (.bool b)) w' := ⟨by rw [h], hb⟩
theorem Ret.out {v : Value} {w w' : World} {e : Ending} (h : Ret v w e w') : e = .returned v ∧ Below w.heap.size w w' := h

theorem eint {k : IntKind} {a b : Int} (h : a = b) : Ending.returned (.int k a) = .returned (.int k b) := by rw [h]
theorem ebool {a b : Bool} (h : a = b) : Ending.returned (.bool a) = .returned (.bool b) := by rw [h]
theorem bcell {W w1 : World} (hb : Below W.heap.size W w1) : (∀ b o, b < W.heap.size → w1.cell? ⟨b, o, none⟩ = W.cell? ⟨b, o, none⟩) ∧ (∀ b o, b < W.heap.size → w1.frozen? ⟨b, o, none⟩ = W.frozen? ⟨b, o, none⟩) :=
  ⟨fun b o h => hb.cell (p := ⟨b, o, none⟩) h, fun b o h => hb.frozen (p := ⟨b, o, none⟩) h⟩
theorem Ret.use {v : Value} {w w' : World} {e : Ending} (h : Ret v w e w') : e = .returned v ∧ Below w.heap.size w w' ∧ (∀ b o, b < w.heap.size → w'.cell? ⟨b, o, none⟩ = w.cell? ⟨b, o, none⟩) ∧ (∀ b o, b < w.heap.size → w'.frozen? ⟨b, o, none⟩ = w.frozen? ⟨b, o, none⟩) ∧ w.heap.size ≤ w'.heap.size :=
  ⟨h.1, h.2, (bcell h.2).1, (bcell h.2).2, h.2.size⟩

theorem isSome_set (c : Array Value) (i j : Nat) (v : Value) : ((c.setIfInBounds i v)[j]?).isSome = (c[j]?).isSome := by
  rcases Nat.lt_or_ge j c.size with h | h
  · rw [Array.getElem?_eq_getElem (by simpa using h), Array.getElem?_eq_getElem h]; rfl
  · rw [Array.getElem?_eq_none (by simpa using h), Array.getElem?_eq_none h]
@[go_sem] theorem isSome_setCell (w : World) (a b : Addr) (v : Value) : ((w.setCell a v).cell? b).isSome = (w.cell? b).isSome := by
  unfold World.cell? World.setCell
  simp only [Array.getElem?_modify]
  by_cases h : a.block = b.block
  · rw [if_pos h, ← h]
    cases hw : w.heap[a.block]? with
    | none => rfl
    | some o =>
      cases o <;> simp only [Option.map_some]
      split
      · rfl
      · split
        · rfl
        · exact isSome_set _ _ _ _
  · rw [if_neg h]
section
variable {α : Type}
theorem n1 {x : α} {l m : List α} : (x :: l) ++ m = x :: (l ++ m) := rfl
theorem n2 {l : List α} : [] ++ l = l := rfl
theorem n8 {x : α} {l : List α} : (x :: l)[0]? = some x := rfl
theorem n9 {x : α} {l : List α} {i : Nat} : (x :: l)[i + 1]? = l[i]? := rfl
end
theorem np : (∀ (α : Type) (x y : α) (l : List α), (x :: l).set 0 y = y :: l) ∧ (∀ (α : Type) (x y : α) (l : List α) (i : Nat), (x :: l).set (i + 1) y = x :: l.set i y) ∧ (∀ (α : Type) (l : List α) (i : Nat) (x : α), l.toArray.setIfInBounds i x = (l.set i x).toArray) :=
  ⟨fun _ _ _ _ => rfl, fun _ _ _ _ _ => rfl, fun _ _ _ _ => List.setIfInBounds_toArray ..⟩
theorem ws : (∀ (w : World) (o : Obj), (w.alloc o).heap.size = w.heap.size + 1) ∧ (∀ (w : World) (a : Addr) (v : Value), (w.setCell a v).heap.size = w.heap.size) ∧ (∀ w : World, w.drew.heap.size = w.heap.size) :=
  ⟨fun _ _ => World.size_alloc .., fun _ _ _ => World.size_setCell .., fun _ => World.size_drew ..⟩
end Go.Proofs.YtbkjhdohkdeniaaGreatDoor
namespace Go.Proofs.YtbkjhdohkdeniaaGreatDoor
open Go.RowKit
set_option maxRecDepth 100000

def wr (n : Int) : Int := (n + 2147483648) % 4294967296 - 2147483648
theorem wr_lo (n : Int) : -2147483648 ≤ wr n := by unfold wr; omega
theorem wr_hi (n : Int) : wr n ≤ 2147483647 := by unfold wr; omega
theorem wr_eq {n : Int} (h : -2147483648 ≤ n) (h' : n ≤ 2147483647) : wr n = n := by unfold wr; omega
theorem wrap32_wr (n : Int) : wrap32 n = wr n := by unfold wrap32 wr; rfl
theorem wrap64_wr (n : Int) : wrap64 (wr n) = wr n := by
  have := wr_lo n; have := wr_hi n
  unfold wrap64; omega
theorem wrap64_wrap32 (n : Int) : wrap64 (wrap32 n) = wr n := by rw [wrap32_wr, wrap64_wr]
def inR (n low high : Int) : Bool := decide (low ≤ n) && decide (n ≤ high)
theorem inR_iff {n low high : Int} : inR n low high = true ↔ low ≤ n ∧ n ≤ high := by simp [inR]
theorem inR_not {n low high : Int} : inR n low high = false ↔ n < low ∨ high < n := by
  rw [Bool.eq_false_iff, ne_eq, inR_iff]; omega

theorem c_num_Wrap (n : Int) (w : World) :
    Calls Tryz.prog 99 #[.int .i64 n] w fun e w' => e = .returned (.int .i64 (wr n)) ∧ w = w' := by
  go_enter Tryz.func99, Tryz.ntmps99
  go_wp2
  go_ret
  exact ⟨eint (wrap64_wrap32 n), rfl⟩
theorem r_outside (n low high : Int) (w : World) :
    Calls Tryz.prog 39 #[.int .i64 n, .int .i64 low, .int .i64 high] w fun e w' => e = .returned (.bool (!(inR n low high))) ∧ w = w' := by
  go_enter Tryz.func39, Tryz.ntmps39
  go_wp2
  all_goals
    go_ret
    exact ⟨ebool (by rw [Bool.eq_iff_iff]; simp [inR] <;> omega), rfl⟩
theorem r_IsNumber (n : Int) (w : World) :
    Calls Tryz.prog 75 #[.int .i64 n] w fun e w' => e = .returned (.bool (inR n (-2147483648) 2147483647)) ∧ w = w' := by
  go_enter Tryz.func75, Tryz.ntmps75
  go_wp2_with (go_at_call 39; (with_reducible refine (r_outside _ _ _ _).mono ?_); rintro e w1 ⟨rfl, rfl⟩)
  all_goals
    go_ret
    exact ⟨ebool (by simp), rfl⟩
end Go.Proofs.YtbkjhdohkdeniaaGreatDoor
namespace Go.Proofs.YtbkjhdohkdeniaaGreatDoor
open Go.RowKit
set_option maxRecDepth 100000

def subB (a b : Int) : Bool := bits .andNot .i64 a b == 0
end Go.Proofs.YtbkjhdohkdeniaaGreatDoor
namespace Go.Proofs.YtbkjhdohkdeniaaGreatDoor
open Go.RowKit
set_option maxRecDepth 100000

structure Key where
  (perm base len pos tag : Int)
theorem Key.ext_iff' {a b : Key} : (a.perm = b.perm ∧ a.base = b.base ∧ a.len = b.len ∧ a.pos = b.pos ∧ a.tag = b.tag) ↔ a = b := by
  constructor
  · rintro ⟨h1, h2, h3, h4, h5⟩
    cases a; cases b; simp_all
  · rintro rfl; exact ⟨rfl, rfl, rfl, rfl, rfl⟩
instance : DecidableEq Key := fun a b => decidable_of_iff (a.perm = b.perm ∧ a.base = b.base ∧ a.len = b.len ∧ a.pos = b.pos ∧ a.tag = b.tag) Key.ext_iff'
structure Val where
  is : Bool
  n : Int
  key : Key
theorem Val.ext_iff' {a b : Val} : (a.is = b.is ∧ a.n = b.n ∧ a.key = b.key) ↔ a = b := by
  constructor
  · rintro ⟨h1, h2, h3⟩
    cases a; cases b; simp_all
  · rintro rfl; exact ⟨rfl, rfl, rfl⟩
instance : DecidableEq Val := fun a b => decidable_of_iff (a.is = b.is ∧ a.n = b.n ∧ a.key = b.key) Val.ext_iff'

def i64 (n : Int) : Prop := -9223372036854775808 ≤ n ∧ n ≤ 9223372036854775807
structure Key.Wf (k : Key) : Prop where
  perm : i64 k.perm
  base : i64 k.base
  len : i64 k.len
  pos : i64 k.pos
  tag : i64 k.tag
structure Val.Wf (v : Val) : Prop where
  n : i64 v.n
  key : v.key.Wf
def Key.zero : Key := ⟨0, 0, 0, 0, 0⟩

def keyOk (k : Key) : Bool := inR k.base 0 400 && inR k.len 0 (400 - k.base) && inR k.perm 0 127 && inR k.pos 0 400 && inR k.tag 0 63
def keyE (k : Key) : Int := if keyOk k = true then 0 else 1
theorem keyE_ok {k : Key} (h : keyOk k = true) : keyE k = 0 := by simp [keyE, h]
def cov (k : Key) (i : Int) : Bool := decide (k.base ≤ i) && decide (i - k.base < k.len)
def under (a b : Key) : Bool := (decide (a.len ≤ 0) || (cov b a.base && cov b (a.base + a.len - 1))) && (subB a.perm b.perm && (a.tag == b.tag || b.tag == 0))

theorem Ret.key {p q : Key × Int} {w w' : World} (h : q = p) (hb : Below w.heap.size w w') :
    Ret (.tuple #[.agg #[.int .i64 p.1.perm, .int .i64 p.1.base, .int .i64 p.1.len, .int .i64 p.1.pos, .int .i64 p.1.tag], .int .i64 p.2]) w (.returned (.tuple #[.agg #[.int .i64 q.1.perm, .int .i64 q.1.base, .int .i64 q.1.len, .int .i64 q.1.pos, .int .i64 q.1.tag], .int .i64 q.2])) w' := by subst h; exact ⟨rfl, hb⟩
end Go.Proofs.YtbkjhdohkdeniaaGreatDoor
namespace Go.Proofs.YtbkjhdohkdeniaaGreatDoor
open Go.RowKit
set_option maxRecDepth 100000

/-! A region that draws its order, in a class of worlds: the caller's own blocks are as they were, and what was there before the call. -/
section
variable {P : Program} {ops : Array Oper} {C : World → Prop} {a : Act} {o : Oper} {K : Act → Prop}
theorem quiet_run {v : Value} (h : ∀ w, C w → (execOp a.eval o).run P w = .ok (.value v) w) (hk : K (a.put o.dst v)) : o.quiet P a C K :=
  ⟨v, fun w hw => by unfold Oper.quietAt; rw [h w hw]; exact ⟨rfl, rfl⟩, hk⟩
theorem quiet_call {v : Value} {f : FuncId} {args : Array Value} (h : ∀ w, (execOp a.eval o).run P w = .ok (.enter f args) w)
    (hc : ∀ w, C w → Calls P f args w (fun e w1 => e = .returned v ∧ C w1)) (hk : K (a.put o.dst v)) : o.quiet P a C K :=
  ⟨v, fun w hw => by unfold Oper.quietAt; rw [h w]; exact ⟨rfl, hc w hw⟩, hk⟩
end

structure Kept (w : World) (bs : List (Array Value)) (W : World) : Prop where
  below : Below w.heap.size w W
  size : w.heap.size + bs.length ≤ W.heap.size
  cell : ∀ i cs, bs[i]? = some cs → ∀ o, W.cell? ⟨w.heap.size + i, o, none⟩ = cs[o]?
  frozen : ∀ i cs, bs[i]? = some cs → ∀ o, W.frozen? ⟨w.heap.size + i, o, none⟩ = false
theorem Kept.same {w W : World} {bs : List (Array Value)} {v : Value} {e : Ending} {w1 : World} (h : Kept w bs W) (hr : e = .returned v ∧ W = w1) : e = .returned v ∧ Kept w bs w1 := by
  obtain ⟨he, rfl⟩ := hr
  exact ⟨he, h⟩
theorem Kept.drew {w W : World} {bs : List (Array Value)} (h : Kept w bs W) : Kept w bs W.drew := ⟨h.below.drew, h.size, h.cell, h.frozen⟩
theorem wp_region_kept {P : Program} {id : Nat} {Q : Exit → Act → World → Prop} {a : Act} {w w0 : World} {bs : List (Array Value)} {l : List Oper} (hm : P.follows .mixedOrders = true) (hB : Region.lexB .any l.toArray = true) (hC : Kept w0 bs w)
    (h : wpQuiet P l.toArray (Kept w0 bs) (fun a' => ∀ w', Kept w0 bs w' → Q .normal a' w') l a) : (Code.region id l.toArray true).wp P Q a w :=
  wp_region_quiet (C := Kept w0 bs) hm hB hC.drew (by simpa using h)
theorem Kept.mk1 {w W : World} {c : Array Value} (hb : Below w.heap.size w W) (hs : w.heap.size + 1 ≤ W.heap.size) (c0 : ∀ o, W.cell? ⟨w.heap.size, o, none⟩ = c[o]?) (f0 : ∀ o, W.frozen? ⟨w.heap.size, o, none⟩ = false) : Kept w [c] W :=
  ⟨hb, hs, fun i cs h => by
    match i, h with
    | 0, h => cases h; exact c0, fun i cs h => by
    match i, h with
    | 0, h => cases h; exact f0⟩
end Go.Proofs.YtbkjhdohkdeniaaGreatDoor
namespace Go.Proofs.YtbkjhdohkdeniaaGreatDoor
open Go.RowKit
set_option maxRecDepth 100000

end Go.Proofs.YtbkjhdohkdeniaaGreatDoor
