/- Whole structs loaded in a region that draws, out of blocks that were there before; machines that are the same. Conditions: none. -/
import Derived.Test.YtnbppchpgagliaaMachEq
import Derived.Test.YtnbppchpgagliaaMStore
namespace Go.Proofs.Ytnbppchpgagliaa
open Go.RowKit
set_option linter.unusedVariables false
set_option linter.unusedSimpArgs false
set_option maxRecDepth 100000

theorem quiet_load_old {P : Program} {w0 : World} {bs : List (Array Value)} {o : Oper} {a : Act} {K : Act → Prop} (ty : TypeId) (x : Operand) (ho : o.op = .load ty x) {g : Nat} {t : TypeId} {cs : Array Value} {n : Nat} (hb : Box w0 g t cs)
    (hx : a.eval x = .pointer (some ⟨g, 0, none⟩)) (hu : ((P.underlying ty).map (·.isRow)).getD false = true) (hn : cs.size = n) (hi : (P.info? ty).map (·.size) = some n) (hk : K (a.put o.dst (.agg cs))) : o.quiet P a (Kept w0 bs) K := by
  refine quiet_run (v := .agg cs) (fun w hw => ?_) hk
  cases hd : P.underlying ty with
  | none => rw [hd] at hu; cases hu
  | some d =>
    rw [hd] at hu
    have hb' := hb.on hw.below
    have hr : w.rangeAt g 0 cs.toList := fun j v hj => by
      rw [Nat.zero_add, hb'.cell j]
      simpa using hj
    unfold execOp
    simp only [ho, hx, Instr.loadAt, Instr.sureAddr, Sem.run_bind, Sem.run_pure, Result.andThen_ok, run_loadVar_mid w _ 0 ty cs.toList d hr hd hu (by rw [hi, ← hn]; rfl)]
theorem MachV.one {w : World} {B : Nat} {mc : Array Value} {m : Mach} (h : MachV w B mc m) : mc.all (·.oneCell') = true := by
  obtain ⟨A, S, O, a, s, o, rfl, _⟩ := h.ex
  exact machL_one h.regs rfl rfl rfl
theorem r_MachineSame (mc nc : Array Value) (m : Mach) (w : World) (hm : MachV w w.heap.size mc m) (hn : MachV w w.heap.size nc m) (hl : m.mem.length < 9223372036854775807 ∧ m.stack.length < 9223372036854775807 ∧ m.out.length < 9223372036854775807) :
    Calls Try.prog 28 #[.agg mc, .agg nc] w (Ret (.bool true) w) := by
  have := r_MachineEq mc nc m m w hm hn hl
  rwa [decide_eq_true (rfl : m = m)] at this
theorem MachV.grow {w w' : World} {mc : Array Value} {m : Mach} (h : MachV w w.heap.size mc m) (hb : Below w.heap.size w w') : MachV w' w'.heap.size mc m := (h.below hb).more hb.size
end Go.Proofs.Ytnbppchpgagliaa
