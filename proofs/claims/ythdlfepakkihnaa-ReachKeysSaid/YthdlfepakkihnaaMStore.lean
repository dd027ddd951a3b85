/- A whole machine loaded and stored. Conditions: none. -/
import Derived.Test.YthdlfepakkihnaaMBox
namespace Go.Proofs.Ythdlfepakkihnaa
open Go.RowKit
set_option linter.unusedVariables false
set_option linter.unusedSimpArgs false
set_option maxRecDepth 100000
/-- a row is loaded whole out of a block known whole -/
theorem run_load_box {P : Program} {o : Oper} {a : Act} {w : World} (ty : TypeId) (x : Operand) (ho : o.op = .load ty x) {g : Nat} {t : TypeId} {cs : Array Value} (hx : a.eval x = .pointer (some ⟨g, 0, none⟩)) (hg : Box w g t cs) {d : TypeDesc} (hu : P.underlying ty = some d)
    (hd : (match d with | .struct _ | .array _ _ => true | _ => false) = true) (hi : (P.info? ty).map (·.size) = some cs.size) : (execOp a.eval o).run P w = .ok (.value (.agg cs)) w := by
  unfold execOp
  simp only [ho, hx, Instr.loadAt, Instr.sureAddr, Sem.run_bind, Sem.run_pure, Result.andThen_ok, run_loadVar_row w g t ty cs (0, 0) d hg hu hd hi]
theorem wp_store_box {P : Program} {o : Oper} {a : Act} {w : World} {K : Act → World → Prop} {Q : Exit → Act → World → Prop} {ops : Array Oper} {G : Prop} (hgd : o.guard = none) (ty : TypeId) (x y : Operand) (ho : o.op = .store ty x y)
    {g : Nat} {t : TypeId} {old cells : Array Value} (hg : Box w g t old) (hx : a.eval x = .pointer (some ⟨g, 0, none⟩)) (hy : a.eval y = .agg cells) (hold : old.size = cells.size) (hi : (P.info? ty).map (·.size) = some cells.size) (h1 : cells.all (·.oneCell') = true)
    (h : ∀ w', Box w' g t cells → w.grownBy w' (some g) → w'.heap.size = w.heap.size → K (a.put o.dst undef) w') : if Region.wanted o (yielded ops a.tmps) = true then Oper.wp P o a w K Q else G := by
  have hs : setMany old.toList 0 cells.toList = cells.toList := by
    apply List.ext_getElem?
    intro q
    rw [setMany_at _ _ _ _ (by simp [hold])]
    rcases Nat.lt_or_ge q cells.size with hq | hq
    · rw [if_pos ⟨Nat.zero_le _, by simpa using hq⟩, Nat.sub_zero]
    · rw [if_neg (by simp; omega), List.getElem?_eq_none (by simp; omega), List.getElem?_eq_none (by simp; omega)]
  exact step_store_part hgd ty x y ho hg hx hy hs (by omega) hi h1 h
section
variable {regs : List Val} {k : Key} {a b c : Value}
theorem info_mach (hl : regs.length = 8) : (Try.prog.info? 31).map (·.size) = some (machL regs k a b c).toArray.size := by rw [List.size_toArray, machL_length hl]; kernel_rfl
theorem wpList_store_mach {ops : Array Oper} {rest : List Oper} {o : Oper} {act : Act} {w : World} {Q : Exit → Act → World → Prop} (hgd : o.guard = none) (x y : Operand) (ho : o.op = .store 31 x y)
    {g : Nat} {t : TypeId} {old : Array Value} (hg : Box w g t old) (hx : act.eval x = .pointer (some ⟨g, 0, none⟩)) (hy : act.eval y = .agg (machL regs k a b c).toArray) (hl : regs.length = 8) (h64 : old.size = 64)
    (ha : a.oneCell' = true) (hb : b.oneCell' = true) (hc : c.oneCell' = true)
    (h : ∀ w', Box w' g t (machL regs k a b c).toArray → w.grownBy w' (some g) → w'.heap.size = w.heap.size → wpList Try.prog ops Q rest (act.put o.dst undef) w') : wpList Try.prog ops Q (o :: rest) act w :=
  wpList_store_box hgd 31 x y ho hg hx hy (info_mach hl) (by rw [h64, List.size_toArray, machL_length hl]) (machL_one hl ha hb hc) h
theorem wpList_load_mach {ops : Array Oper} {rest : List Oper} {o : Oper} {act : Act} {w : World} {Q : Exit → Act → World → Prop} (hgd : o.guard = none) (x : Operand) (ho : o.op = .load 31 x)
    {g : Nat} {t : TypeId} (hg : Box w g t (machL regs k a b c).toArray) (hx : act.eval x = .pointer (some ⟨g, 0, none⟩)) (hl : regs.length = 8)
    (h : wpList Try.prog ops Q rest (act.put o.dst (.agg (machL regs k a b c).toArray)) w) : wpList Try.prog ops Q (o :: rest) act w :=
  wpList_load_box hgd 31 x ho hg hx Try.underlying31 rfl (info_mach hl) h
end
theorem Lies.off {α : Type} {enc : α → List Value} {size : Nat} {w w' : World} {B g : Nat} {A : Option Addr} {xs : List α} (h : Lies enc size w B A xs) (hg : w.grownBy w' (some g)) (hB : B ≤ w.heap.size) (hne : ∀ b o, A = some ⟨b, o, none⟩ → b ≠ g) : Lies enc size w' B A xs := fun hn => by
  obtain ⟨b, o, hA, hb, hc⟩ := h hn
  exact ⟨b, o, hA, hb, fun i x hi j hj => (World.cell?_of_block (w := w) (hg.block b (by omega) (fun e => hne b o hA (by injection e)))).trans (hc i x hi j hj)⟩
theorem Own.cap {α : Type} {enc : α → List Value} {e : TypeId} {size base : Nat} {w : World} {A : Option Addr} {n c : Nat} {xs : List α} (h : Own enc e size w base (.slice A n c) xs) : xs.length ≤ c ∧ c ≤ maxLen := by
  rcases h.2 with ⟨hv, h0⟩ | ⟨g, cap, cur, hv, _, _, h1, h2, _⟩
  · injection hv with _ _ hc
    rw [h0, hc]; exact ⟨Nat.le_refl _, by decide⟩
  · injection hv with _ _ hc
    rw [hc]; exact ⟨h1, h2⟩
theorem Own.one_ {α : Type} {enc : α → List Value} {e : TypeId} {size base : Nat} {w : World} {v : Value} {xs : List α} (h : Own enc e size w base v xs) : v.oneCell' = true := by
  obtain ⟨A, c, rfl⟩ := h.form
  rfl
end Go.Proofs.Ythdlfepakkihnaa
