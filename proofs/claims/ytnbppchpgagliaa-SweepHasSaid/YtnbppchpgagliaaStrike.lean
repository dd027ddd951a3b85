/- The broom's strokes on a machine in place. Conditions: none. -/
import Derived.Test.YtnbppchpgagliaaSweepW
namespace Go.Proofs.Ytnbppchpgagliaa
open Go.RowKit
set_option linter.unusedVariables false
set_option linter.unusedSimpArgs false
set_option maxRecDepth 100000
/-- what a stroke on a machine in place leaves -/
def Struck (w0 : World) (B g r bb : Nat) (va vs vo : Value) (base n many : Int) (m : Mach) : Ending → World → Prop := fun e w' => e = .returned (.tuple #[]) ∧ InPl w0 w' B g r bb va vs vo base n many m
section
variable {w0 w : World} {B g r bb : Nat} {va vs vo : Value} {base n many : Int} {m : Mach}
theorem valKey {v : Val} (h : valE v = 0) : v.is = true → KeyB v.key := fun hi => KeyB.of (valE_is h hi).1
theorem strike_code (hI : InPl w0 w B g r bb va vs vo base n many m) (hd : Apart g r bb va vs vo) (hk : keyOk m.code = true) (h1 : 0 ≤ base) (h2 : base ≤ 400) (h3 : 0 ≤ n) (h4 : n ≤ 400) (h5 : 0 ≤ many) (h6 : many ≤ 100000) :
    Calls Try.prog 61 #[.pointer (some ⟨bb, 0, none⟩), .pointer (some ⟨g, 56, none⟩)] w (Struck w0 B g r bb va vs vo base n (many + cntK base n m.code) { m with code := swK base n m.code }) :=
  (c_broom_key bb g 56 base n many m.code w hI.br hI.box.lt hd.gb (fun j hj => by
    rw [hI.box.cell, List.getElem?_toArray, machL_tail hI.regs]
    match j, hj with
    | 0, _ => rfl
    | 1, _ => rfl
    | 2, _ => rfl
    | 3, _ => rfl
    | 4, _ => rfl) (fun o => hI.box.frozen o) (KeyB.of hk) h1 h2 h3 h4 h5 h6).mono fun e w' h => ⟨h.1, hI.code hd h.2⟩
theorem strike_reg (hI : InPl w0 w B g r bb va vs vo base n many m) (hd : Apart g r bb va vs vo) {i : Nat} {x : Val} (hx : m.regs[i]? = some x) (hk : valE x = 0) (h1 : 0 ≤ base) (h2 : base ≤ 400) (h3 : 0 ≤ n) (h4 : n ≤ 400) (h5 : 0 ≤ many) (h6 : many ≤ 100000) :
    Calls Try.prog 62 #[.pointer (some ⟨bb, 0, none⟩), .pointer (some ⟨g, i * 7, none⟩)] w (Struck w0 B g r bb va vs vo base n (many + cntV base n x) { m with regs := m.regs.set i (swV base n x) }) :=
  have hi : i < 8 := by have := (List.getElem?_eq_some_iff.1 hx).1; have := hI.regs; omega
  (c_broom_val bb g (i * 7) base n many x w hI.br hI.box.lt hd.gb (fun j hj => by rw [hI.box.cell, List.getElem?_toArray, machL_reg hI.regs hx hj]) (fun o => hI.box.frozen o) (valKey hk) h1 h2 h3 h4 h5 h6).mono fun e w' h => ⟨h.1, hI.reg hd hi h.2⟩
theorem strike_mem {q nn c : Nat} (hI : InPl w0 w B g r bb (.slice (some ⟨q, 0, none⟩) nn c) vs vo base n many m) (hd : Apart g r bb (.slice (some ⟨q, 0, none⟩) nn c) vs vo) {i : Nat} {x : Val} (hx : m.mem[i]? = some x) (hk : valE x = 0) (h1 : 0 ≤ base) (h2 : base ≤ 400) (h3 : 0 ≤ n) (h4 : n ≤ 400) (h5 : 0 ≤ many) (h6 : many ≤ 100000) :
    Calls Try.prog 62 #[.pointer (some ⟨bb, 0, none⟩), .pointer (some ⟨q, i * 7, none⟩)] w (Struck w0 B g r bb (.slice (some ⟨q, 0, none⟩) nn c) vs vo base n (many + cntV base n x) { m with mem := m.mem.set i (swV base n x) }) :=
  have hat := hI.mem.at_ hx
  have hlt : q < w.heap.size := (hI.mem.lt q rfl).2
  (c_broom_val bb q (i * 7) base n many x w hI.br hlt (fun e => hd.a3 (by rw [← e]; rfl)) (fun j hj => by
    obtain ⟨b, o, hA, _, hc⟩ := hI.mem.liesB (fun _ => rfl) rfl (by rintro h0; rw [h0] at hx; cases hx)
    cases hA
    have := hc i x hx j hj
    rwa [Nat.zero_add] at this) (fun o => by
    obtain ⟨g', hA, _, _, hf, _⟩ := hat
    cases hA
    exact hf o) (valKey hk) h1 h2 h3 h4 h5 h6).mono fun e w' h => ⟨h.1, hI.cell hd hx h.2⟩
theorem strike_fcode {q nn c : Nat} (hI : InPl w0 w B g r bb va (.slice (some ⟨q, 0, none⟩) nn c) vo base n many m) (hd : Apart g r bb va (.slice (some ⟨q, 0, none⟩) nn c) vo) {i : Nat} {x : Frame} (hx : m.stack[i]? = some x) (hk : keyOk x.code = true) (h1 : 0 ≤ base) (h2 : base ≤ 400) (h3 : 0 ≤ n) (h4 : n ≤ 400) (h5 : 0 ≤ many) (h6 : many ≤ 100000) :
    Calls Try.prog 61 #[.pointer (some ⟨bb, 0, none⟩), .pointer (some ⟨q, i * 12, none⟩)] w (Struck w0 B g r bb va (.slice (some ⟨q, 0, none⟩) nn c) vo base n (many + cntK base n x.code) { m with stack := m.stack.set i { x with code := swK base n x.code } }) :=
  have hat := hI.stk.at_ hx
  have hlt : q < w.heap.size := (hI.stk.lt q rfl).2
  (c_broom_key bb q (i * 12) base n many x.code w hI.br hlt (fun e => hd.s3 (by rw [← e]; rfl)) (fun j hj => by
    obtain ⟨b, o, hA, _, hc⟩ := hI.stk.liesB (fun _ => rfl) rfl (by rintro h0; rw [h0] at hx; cases hx)
    cases hA
    have := hc i x hx j (by omega)
    rw [Nat.zero_add] at this
    rw [this]
    match j, hj with
    | 0, _ => rfl
    | 1, _ => rfl
    | 2, _ => rfl
    | 3, _ => rfl
    | 4, _ => rfl) (fun o => by
    obtain ⟨g', hA, _, _, hf, _⟩ := hat
    cases hA
    exact hf o) (KeyB.of hk) h1 h2 h3 h4 h5 h6).mono fun e w' h => ⟨h.1, hI.frame hd (j := 0) (us := encK (swK base n x.code)) hx (show 0 + 5 ≤ 12 by omega) rfl h.2⟩
theorem strike_fdata {q nn c : Nat} (hI : InPl w0 w B g r bb va (.slice (some ⟨q, 0, none⟩) nn c) vo base n many m) (hd : Apart g r bb va (.slice (some ⟨q, 0, none⟩) nn c) vo) {i : Nat} {x : Frame} (hx : m.stack[i]? = some x) (hk : valE x.data = 0) (h1 : 0 ≤ base) (h2 : base ≤ 400) (h3 : 0 ≤ n) (h4 : n ≤ 400) (h5 : 0 ≤ many) (h6 : many ≤ 100000) :
    Calls Try.prog 62 #[.pointer (some ⟨bb, 0, none⟩), .pointer (some ⟨q, i * 12 + 5, none⟩)] w (Struck w0 B g r bb va (.slice (some ⟨q, 0, none⟩) nn c) vo base n (many + cntV base n x.data) { m with stack := m.stack.set i { x with data := swV base n x.data } }) :=
  have hat := hI.stk.at_ hx
  have hlt : q < w.heap.size := (hI.stk.lt q rfl).2
  (c_broom_val bb q (i * 12 + 5) base n many x.data w hI.br hlt (fun e => hd.s3 (by rw [← e]; rfl)) (fun j hj => by
    obtain ⟨b, o, hA, _, hc⟩ := hI.stk.liesB (fun _ => rfl) rfl (by rintro h0; rw [h0] at hx; cases hx)
    cases hA
    have := hc i x hx (5 + j) (by omega)
    rw [Nat.zero_add, ← Nat.add_assoc] at this
    rw [this]
    match j, hj with
    | 0, _ => rfl
    | 1, _ => rfl
    | 2, _ => rfl
    | 3, _ => rfl
    | 4, _ => rfl
    | 5, _ => rfl
    | 6, _ => rfl) (fun o => by
    obtain ⟨g', hA, _, _, hf, _⟩ := hat
    cases hA
    exact hf o) (valKey hk) h1 h2 h3 h4 h5 h6).mono fun e w' h => ⟨h.1, hI.frame hd (j := 5) (us := encV (swV base n x.data)) hx (show 5 + 7 ≤ 12 by omega) rfl h.2⟩
end
end Go.Proofs.Ytnbppchpgagliaa
