/- MachineEq of the reference: as the plain machines are. Conditions: none. -/
import Derived.Test.YtnbppchpgagliaaEqF
import Derived.ChangeKeysEq
namespace Go.Proofs.Ytnbppchpgagliaa
open Go.RowKit
set_option linter.unusedVariables false
set_option linter.unusedSimpArgs false
set_option maxRecDepth 100000

theorem Kept.ofB {w W : World} {bs : List (Array Value × TypeId)} (h : KeptB w bs W) {cs : List (Array Value)} (hc : cs = bs.map (·.1)) : Kept w cs W := by
  subst hc
  refine ⟨h.below, by rw [List.length_map]; exact h.size, fun i c hi o => ?_, fun i c hi o => ?_⟩
  · rw [List.getElem?_map] at hi
    obtain ⟨x, hx, rfl⟩ := Option.map_eq_some_iff.1 hi
    exact (h.box i x hx).cell o
  · rw [List.getElem?_map] at hi
    obtain ⟨x, hx, rfl⟩ := Option.map_eq_some_iff.1 hi
    exact (h.box i x hx).frozen o
/-- from cell o on lie the cells cs -/
def SubAt (cs0 : Array Value) (o : Nat) (cs : List Value) : Prop := ∀ j v, cs[j]? = some v → cs0[o + j]? = some v
/-- a row is loaded out of the middle of a block that the class knows -/
theorem quiet_load_mid {P : Program} {w0 : World} {bs : List (Array Value)} {o : Oper} {a : Act} {K : Act → Prop} (ty : TypeId) (x : Operand) (ho : o.op = .load ty x) (i : Nat) {cs0 : Array Value} {cs : List Value} {n f : Nat} (hb : bs[i]? = some cs0)
    (hx : a.eval x = .pointer (some ⟨w0.heap.size + i, f, none⟩)) (hsub : SubAt cs0 f cs) (hu : ((P.underlying ty).map (·.isRow)).getD false = true) (hn : cs.length = n) (hi : (P.info? ty).map (·.size) = some n) (hk : K (a.put o.dst (.agg cs.toArray))) : o.quiet P a (Kept w0 bs) K := by
  refine quiet_run (v := .agg cs.toArray) (fun w hw => ?_) hk
  cases hd : P.underlying ty with
  | none => rw [hd] at hu; cases hu
  | some d =>
    rw [hd] at hu
    have hr : w.rangeAt (w0.heap.size + i) f cs := fun j v hj => by
      rw [hw.cell i cs0 hb (f + j)]
      exact hsub j v hj
    unfold execOp
    simp only [ho, hx, Instr.loadAt, Instr.sureAddr, Sem.run_bind, Sem.run_pure, Result.andThen_ok, run_loadVar_mid w _ f ty cs d hr hd hu (by rw [hi, hn])]
theorem MachV.regs_sub {w : World} {B : Nat} {mc : Array Value} {m : Mach} (h : MachV w B mc m) : ∃ rl : List Value, rl = m.regs.flatMap encV ∧ SubAt mc 0 rl ∧ rl.length = 56 := by
  refine ⟨_, rfl, fun j v hj => ?_, by rw [flat_len (enc := encV) (size := 7) (fun _ => rfl), h.regs]⟩
  obtain ⟨A, S, O, a, s, o, h0, _⟩ := h.ex
  rw [Nat.zero_add, h0, List.getElem?_toArray]
  unfold machL
  rw [List.getElem?_append_left (List.getElem?_eq_some_iff.1 hj).1]
  exact hj
theorem Mach.ext_ {a b : Mach} : a = b ↔ (a.regs = b.regs ∧ a.code = b.code ∧ a.mem = b.mem ∧ a.stack = b.stack ∧ a.out = b.out) := by
  cases a; cases b; simp
instance : DecidableEq Mach := fun a b => decidable_of_iff _ Mach.ext_.symm
theorem mach_dec (a b : Mach) : decide (a = b) = (decide (a.regs = b.regs) && decide (a.code = b.code) && decide (a.mem = b.mem) && decide (a.stack = b.stack) && decide (a.out = b.out)) := by
  rw [Bool.eq_iff_iff]
  simp only [Bool.and_eq_true, decide_eq_true_eq, Mach.ext_, and_assoc]
theorem run_part_regs {regs : List Val} {i : Nat} {v : Val} (hl : regs.length = 8) (hv : regs[i]? = some v) {rl : List Value} (hr : rl = regs.flatMap encV) (w : World) :
    (part 35 rl.toArray (i * 7)).run Try.prog w = .ok (.agg #[.bool v.is, .int .i64 v.n, .int .i64 v.key.perm, .int .i64 v.key.base, .int .i64 v.key.len, .int .i64 v.key.pos, .int .i64 v.key.tag]) w := by
  have hi : i < 8 := by have := (List.getElem?_eq_some_iff.1 hv).1; omega
  have he : (rl.drop (i * 7)).take 7 = [.bool v.is, .int .i64 v.n, .int .i64 v.key.perm, .int .i64 v.key.base, .int .i64 v.key.len, .int .i64 v.key.pos, .int .i64 v.key.tag] := by
    apply List.ext_getElem?
    intro j
    rw [List.getElem?_take, List.getElem?_drop]
    by_cases hj : j < 7
    · rw [if_pos hj]
      have := flat_at (enc := encV) (size := 7) (j := j) (fun _ => rfl) hv hj
      rw [hr, this]; rfl
    · rw [if_neg hj, List.getElem?_eq_none (by simp; omega)]
  simp [part, Try.isAgg35, Try.sizeOf35, he, hi]
theorem eqItems_regs (d : Nat) {xs ys : List Val} (hx : xs.length = 8) (hy : ys.length = 8) {rl sl : List Value} (hr : rl = xs.flatMap encV) (hs : sl = ys.flatMap encV) (w : World) : ∀ is : List Nat, (∀ i ∈ is, i < 8) →
    (Op.eqItems (d + 4) 35 7 rl.toArray sl.toArray is).run Try.prog w = .ok (is.all fun i => decide (xs[i]? = ys[i]?)) w
  | [], _ => by simp [Op.eqItems]
  | i :: is, h => by
    have hi := h i (by simp)
    obtain ⟨v, hv⟩ : ∃ v, xs[i]? = some v := ⟨_, List.getElem?_eq_getElem (by omega)⟩
    obtain ⟨u, hu⟩ : ∃ v, ys[i]? = some v := ⟨_, List.getElem?_eq_getElem (by omega)⟩
    have ih := eqItems_regs d hx hy hr hs w is (fun j hj => h j (by simp [hj]))
    have he := eqf_val d v.is v.n v.key.perm v.key.base v.key.len v.key.pos v.key.tag u.is u.n u.key.perm u.key.base u.key.len u.key.pos u.key.tag w
    simp only [Op.eqItems, Sem.run_bind, run_part_regs hx hv hr, run_part_regs hy hu hs, Result.andThen_ok, he, List.all_cons, hv, hu, Option.some.injEq]
    by_cases hd : v = u
    · subst hd
      simpa using ih
    · have : ¬ (Val.mk v.is v.n ⟨v.key.perm, v.key.base, v.key.len, v.key.pos, v.key.tag⟩ = Val.mk u.is u.n ⟨u.key.perm, u.key.base, u.key.len, u.key.pos, u.key.tag⟩) := hd
      simp [hd]
theorem run_eql_regs {xs ys : List Val} (hx : xs.length = 8) (hy : ys.length = 8) {rl sl : List Value} (hr : rl = xs.flatMap encV) (hs : sl = ys.flatMap encV) (w : World) :
    (binOp .eql 41 (.agg rl.toArray) (.agg sl.toArray)).run Try.prog w = .ok (.bool (decide (xs = ys))) w := by
  obtain ⟨i, hi⟩ : ∃ i, Try.prog.info? 35 = some i := ⟨_, rfl⟩
  have hc : Try.prog.cellsOf 35 = 7 := cells_val
  have h2 := eqItems_regs 9995 hx hy hr hs w (List.range 8) (fun i hi => List.mem_range.1 hi)
  rw [run_eql_struct, run_equalIn_array w 9999 rl.toArray sl.toArray Try.underlying41 hi, hc, h2, Result.andThen_ok]
  congr 2
  rw [Bool.eq_iff_iff, List.all_eq_true]
  simp only [decide_eq_true_eq, List.mem_range]
  constructor
  · intro h
    apply List.ext_getElem?
    intro j
    rcases Nat.lt_or_ge j 8 with hj | hj
    · exact h j hj
    · rw [List.getElem?_eq_none (by omega), List.getElem?_eq_none (by omega)]
  · rintro rfl i _; rfl
set_option maxHeartbeats 4000000 in
theorem r_MachineEq (mc nc : Array Value) (m n : Mach) (w : World) (hm : MachV w w.heap.size mc m) (hn : MachV w w.heap.size nc n) (hl : m.mem.length < 9223372036854775807 ∧ m.stack.length < 9223372036854775807 ∧ m.out.length < 9223372036854775807) :
    Calls Try.prog 28 #[.agg mc, .agg nc] w (Ret (.bool (decide (m = n))) w) := by
  obtain ⟨A, S, O, a, s, o, m56, m57, m58, m59, m60, m61, m62, m63, -, -, -, -, -, -, hLm, hLs, hLo, -⟩ := hm.cells
  obtain ⟨A', S', O', a', s', o', n56, n57, n58, n59, n60, n61, n62, n63, -, -, -, -, -, -, hMm, hMs, hMo, -⟩ := hn.cells
  obtain ⟨hl1, hl2, hl3⟩ := hl
  obtain ⟨rl, hrl, hsub, hrn⟩ := hm.regs_sub
  obtain ⟨sl, hsl, hsub', hsn⟩ := hn.regs_sub
  have hreg := run_eql_regs hm.regs hn.regs hrl hsl
  have E := Lib.hid (mach_dec m n)
  generalize decide (m = n) = R at E
  have HLm := Lib.hid hLm
  have HLs := Lib.hid hLs
  have HLo := Lib.hid hLo
  have HMm := Lib.hid hMm
  have HMs := Lib.hid hMs
  have HMo := Lib.hid hMo
  have HKB := Lib.hid (((KeptB.nil_ (Below.refl _ w)).more (t := 45) (cs := mc) rfl).more (t := 45) (cs := nc) (by rw [World.size_alloc]; rfl))
  clear hLm hLs hLo hMm hMs hMo hrl hsl hm hn
  obtain ⟨p1, h1⟩ : ∃ p, p = decide (m.regs = n.regs) := ⟨_, rfl⟩
  rw [← h1] at E hreg
  clear h1
  cases p1
  · skip
    go_enter Try.func28, Try.ntmps28
    go_wp2_with (first | (refine wpList_load_mid rfl 41 (.tmp 5) rfl w.heap.size 0 rfl rl _ (fun j v hj => (HKB.out.box 0 _ rfl).cell _ |>.trans (hsub j v hj)) Try.underlying41 rfl (by rw [hrn]; kernel_rfl) ?_) | (refine wpList_load_mid rfl 41 (.tmp 7) rfl (w.heap.size + 1) 0 rfl sl _ (fun j v hj => (HKB.out.box 1 _ rfl).cell _ |>.trans (hsub' j v hj)) Try.underlying41 rfl (by rw [hsn]; kernel_rfl) ?_) | (go_at_call 25; (with_reducible refine (r_Eq_V A A' a a' m.mem n.mem _ hl1 ((HLm.out.below HKB.out.below).more HKB.out.below.size) ((HMm.out.below HKB.out.below).more HKB.out.below.size)).mono ?_); intro e w1 hr; obtain ⟨rfl, hb, hc, hf, hz⟩ := hr.use; clear hr hc hf; have hK := KeptB.on (HKB.out) hb; clear hb hz; have HK := Lib.hid hK; have hbw := hK.below; have HB0 := Lib.hid (hK.box 0 _ rfl); have c0 := fun o => HB0.out.cell o; have f0 := fun o => HB0.out.frozen o; have z0 := HB0.out.lt; (try dsimp only at c0); have HB1 := Lib.hid (hK.box 1 _ rfl); have c1 := fun o => HB1.out.cell o; have f1 := fun o => HB1.out.frozen o; have z1 := HB1.out.lt; (try dsimp only at c1); (try simp only [Nat.add_zero] at c0 f0 z0); clear hK) | (go_at_call 58; (with_reducible refine (r_Eq_F S S' s s' m.stack n.stack _ hl2 ((HLs.out.below HK.out.below).more HK.out.below.size) ((HMs.out.below HK.out.below).more HK.out.below.size)).mono ?_); intro e w2 hr; obtain ⟨rfl, hb, hc, hf, hz⟩ := hr.use; clear hr hc hf; have hK := KeptB.on (HK.out) hb; clear hb hz; have HK := Lib.hid hK; have hbw := hK.below; have HB0 := Lib.hid (hK.box 0 _ rfl); have c0 := fun o => HB0.out.cell o; have f0 := fun o => HB0.out.frozen o; have z0 := HB0.out.lt; (try dsimp only at c0); have HB1 := Lib.hid (hK.box 1 _ rfl); have c1 := fun o => HB1.out.cell o; have f1 := fun o => HB1.out.frozen o; have z1 := HB1.out.lt; (try dsimp only at c1); (try simp only [Nat.add_zero] at c0 f0 z0); clear hK) | (go_at_call 35; (with_reducible refine (r_Eq_I O O' o o' m.out n.out _ hl3 ((HLo.out.below HK.out.below).more HK.out.below.size) ((HMo.out.below HK.out.below).more HK.out.below.size)).mono ?_); intro e w3 hr; obtain ⟨rfl, hb, hc, hf, hz⟩ := hr.use; clear hr hc hf; have hK := KeptB.on (HK.out) hb; clear hb hz; have HK := Lib.hid hK; have hbw := hK.below; have HB0 := Lib.hid (hK.box 0 _ rfl); have c0 := fun o => HB0.out.cell o; have f0 := fun o => HB0.out.frozen o; have z0 := HB0.out.lt; (try dsimp only at c0); have HB1 := Lib.hid (hK.box 1 _ rfl); have c1 := fun o => HB1.out.cell o; have f1 := fun o => HB1.out.frozen o; have z1 := HB1.out.lt; (try dsimp only at c1); (try simp only [Nat.add_zero] at c0 f0 z0); clear hK) | fail)
    go_returns
    exact Ret.bool (by rw [E.out]; simp [*]) (by first | exact hbw | (repeat' (first | (with_reducible exact Below.refl _ _) | (with_reducible assumption) | (with_reducible refine Below.alloc ?_ ?_ _) | (with_reducible refine Below.drew ?_) | (with_reducible refine Below.setCell ?_ ?_ _) | (refine Below.trans ?_ (Below.mono (by with_reducible assumption) ?_)) | go_size)))
  · cases h2 : decide (m.code = n.code)
    · skip
      go_enter Try.func28, Try.ntmps28
      go_wp2_with (first | (refine wpList_load_mid rfl 41 (.tmp 5) rfl w.heap.size 0 rfl rl _ (fun j v hj => (HKB.out.box 0 _ rfl).cell _ |>.trans (hsub j v hj)) Try.underlying41 rfl (by rw [hrn]; kernel_rfl) ?_) | (refine wpList_load_mid rfl 41 (.tmp 7) rfl (w.heap.size + 1) 0 rfl sl _ (fun j v hj => (HKB.out.box 1 _ rfl).cell _ |>.trans (hsub' j v hj)) Try.underlying41 rfl (by rw [hsn]; kernel_rfl) ?_) | (go_at_call 25; (with_reducible refine (r_Eq_V A A' a a' m.mem n.mem _ hl1 ((HLm.out.below HKB.out.below).more HKB.out.below.size) ((HMm.out.below HKB.out.below).more HKB.out.below.size)).mono ?_); intro e w1 hr; obtain ⟨rfl, hb, hc, hf, hz⟩ := hr.use; clear hr hc hf; have hK := KeptB.on (HKB.out) hb; clear hb hz; have HK := Lib.hid hK; have hbw := hK.below; have HB0 := Lib.hid (hK.box 0 _ rfl); have c0 := fun o => HB0.out.cell o; have f0 := fun o => HB0.out.frozen o; have z0 := HB0.out.lt; (try dsimp only at c0); have HB1 := Lib.hid (hK.box 1 _ rfl); have c1 := fun o => HB1.out.cell o; have f1 := fun o => HB1.out.frozen o; have z1 := HB1.out.lt; (try dsimp only at c1); (try simp only [Nat.add_zero] at c0 f0 z0); clear hK) | (go_at_call 58; (with_reducible refine (r_Eq_F S S' s s' m.stack n.stack _ hl2 ((HLs.out.below HK.out.below).more HK.out.below.size) ((HMs.out.below HK.out.below).more HK.out.below.size)).mono ?_); intro e w2 hr; obtain ⟨rfl, hb, hc, hf, hz⟩ := hr.use; clear hr hc hf; have hK := KeptB.on (HK.out) hb; clear hb hz; have HK := Lib.hid hK; have hbw := hK.below; have HB0 := Lib.hid (hK.box 0 _ rfl); have c0 := fun o => HB0.out.cell o; have f0 := fun o => HB0.out.frozen o; have z0 := HB0.out.lt; (try dsimp only at c0); have HB1 := Lib.hid (hK.box 1 _ rfl); have c1 := fun o => HB1.out.cell o; have f1 := fun o => HB1.out.frozen o; have z1 := HB1.out.lt; (try dsimp only at c1); (try simp only [Nat.add_zero] at c0 f0 z0); clear hK) | (go_at_call 35; (with_reducible refine (r_Eq_I O O' o o' m.out n.out _ hl3 ((HLo.out.below HK.out.below).more HK.out.below.size) ((HMo.out.below HK.out.below).more HK.out.below.size)).mono ?_); intro e w3 hr; obtain ⟨rfl, hb, hc, hf, hz⟩ := hr.use; clear hr hc hf; have hK := KeptB.on (HK.out) hb; clear hb hz; have HK := Lib.hid hK; have hbw := hK.below; have HB0 := Lib.hid (hK.box 0 _ rfl); have c0 := fun o => HB0.out.cell o; have f0 := fun o => HB0.out.frozen o; have z0 := HB0.out.lt; (try dsimp only at c0); have HB1 := Lib.hid (hK.box 1 _ rfl); have c1 := fun o => HB1.out.cell o; have f1 := fun o => HB1.out.frozen o; have z1 := HB1.out.lt; (try dsimp only at c1); (try simp only [Nat.add_zero] at c0 f0 z0); clear hK) | fail)
      go_returns
      exact Ret.bool (by rw [E.out]; simp [*]) (by first | exact hbw | (repeat' (first | (with_reducible exact Below.refl _ _) | (with_reducible assumption) | (with_reducible refine Below.alloc ?_ ?_ _) | (with_reducible refine Below.drew ?_) | (with_reducible refine Below.setCell ?_ ?_ _) | (refine Below.trans ?_ (Below.mono (by with_reducible assumption) ?_)) | go_size)))
    · cases h3 : decide (m.mem = n.mem)
      · skip
        go_enter Try.func28, Try.ntmps28
        go_wp2_with (first | (refine wpList_load_mid rfl 41 (.tmp 5) rfl w.heap.size 0 rfl rl _ (fun j v hj => (HKB.out.box 0 _ rfl).cell _ |>.trans (hsub j v hj)) Try.underlying41 rfl (by rw [hrn]; kernel_rfl) ?_) | (refine wpList_load_mid rfl 41 (.tmp 7) rfl (w.heap.size + 1) 0 rfl sl _ (fun j v hj => (HKB.out.box 1 _ rfl).cell _ |>.trans (hsub' j v hj)) Try.underlying41 rfl (by rw [hsn]; kernel_rfl) ?_) | (go_at_call 25; (with_reducible refine (r_Eq_V A A' a a' m.mem n.mem _ hl1 ((HLm.out.below HKB.out.below).more HKB.out.below.size) ((HMm.out.below HKB.out.below).more HKB.out.below.size)).mono ?_); intro e w1 hr; obtain ⟨rfl, hb, hc, hf, hz⟩ := hr.use; clear hr hc hf; have hK := KeptB.on (HKB.out) hb; clear hb hz; have HK := Lib.hid hK; have hbw := hK.below; have HB0 := Lib.hid (hK.box 0 _ rfl); have c0 := fun o => HB0.out.cell o; have f0 := fun o => HB0.out.frozen o; have z0 := HB0.out.lt; (try dsimp only at c0); have HB1 := Lib.hid (hK.box 1 _ rfl); have c1 := fun o => HB1.out.cell o; have f1 := fun o => HB1.out.frozen o; have z1 := HB1.out.lt; (try dsimp only at c1); (try simp only [Nat.add_zero] at c0 f0 z0); clear hK) | (go_at_call 58; (with_reducible refine (r_Eq_F S S' s s' m.stack n.stack _ hl2 ((HLs.out.below HK.out.below).more HK.out.below.size) ((HMs.out.below HK.out.below).more HK.out.below.size)).mono ?_); intro e w2 hr; obtain ⟨rfl, hb, hc, hf, hz⟩ := hr.use; clear hr hc hf; have hK := KeptB.on (HK.out) hb; clear hb hz; have HK := Lib.hid hK; have hbw := hK.below; have HB0 := Lib.hid (hK.box 0 _ rfl); have c0 := fun o => HB0.out.cell o; have f0 := fun o => HB0.out.frozen o; have z0 := HB0.out.lt; (try dsimp only at c0); have HB1 := Lib.hid (hK.box 1 _ rfl); have c1 := fun o => HB1.out.cell o; have f1 := fun o => HB1.out.frozen o; have z1 := HB1.out.lt; (try dsimp only at c1); (try simp only [Nat.add_zero] at c0 f0 z0); clear hK) | (go_at_call 35; (with_reducible refine (r_Eq_I O O' o o' m.out n.out _ hl3 ((HLo.out.below HK.out.below).more HK.out.below.size) ((HMo.out.below HK.out.below).more HK.out.below.size)).mono ?_); intro e w3 hr; obtain ⟨rfl, hb, hc, hf, hz⟩ := hr.use; clear hr hc hf; have hK := KeptB.on (HK.out) hb; clear hb hz; have HK := Lib.hid hK; have hbw := hK.below; have HB0 := Lib.hid (hK.box 0 _ rfl); have c0 := fun o => HB0.out.cell o; have f0 := fun o => HB0.out.frozen o; have z0 := HB0.out.lt; (try dsimp only at c0); have HB1 := Lib.hid (hK.box 1 _ rfl); have c1 := fun o => HB1.out.cell o; have f1 := fun o => HB1.out.frozen o; have z1 := HB1.out.lt; (try dsimp only at c1); (try simp only [Nat.add_zero] at c0 f0 z0); clear hK) | fail)
        go_returns
        exact Ret.bool (by rw [E.out]; simp [*]) (by first | exact hbw | (repeat' (first | (with_reducible exact Below.refl _ _) | (with_reducible assumption) | (with_reducible refine Below.alloc ?_ ?_ _) | (with_reducible refine Below.drew ?_) | (with_reducible refine Below.setCell ?_ ?_ _) | (refine Below.trans ?_ (Below.mono (by with_reducible assumption) ?_)) | go_size)))
      · cases h4 : decide (m.stack = n.stack)
        · skip
          go_enter Try.func28, Try.ntmps28
          go_wp2_with (first | (refine wpList_load_mid rfl 41 (.tmp 5) rfl w.heap.size 0 rfl rl _ (fun j v hj => (HKB.out.box 0 _ rfl).cell _ |>.trans (hsub j v hj)) Try.underlying41 rfl (by rw [hrn]; kernel_rfl) ?_) | (refine wpList_load_mid rfl 41 (.tmp 7) rfl (w.heap.size + 1) 0 rfl sl _ (fun j v hj => (HKB.out.box 1 _ rfl).cell _ |>.trans (hsub' j v hj)) Try.underlying41 rfl (by rw [hsn]; kernel_rfl) ?_) | (go_at_call 25; (with_reducible refine (r_Eq_V A A' a a' m.mem n.mem _ hl1 ((HLm.out.below HKB.out.below).more HKB.out.below.size) ((HMm.out.below HKB.out.below).more HKB.out.below.size)).mono ?_); intro e w1 hr; obtain ⟨rfl, hb, hc, hf, hz⟩ := hr.use; clear hr hc hf; have hK := KeptB.on (HKB.out) hb; clear hb hz; have HK := Lib.hid hK; have hbw := hK.below; have HB0 := Lib.hid (hK.box 0 _ rfl); have c0 := fun o => HB0.out.cell o; have f0 := fun o => HB0.out.frozen o; have z0 := HB0.out.lt; (try dsimp only at c0); have HB1 := Lib.hid (hK.box 1 _ rfl); have c1 := fun o => HB1.out.cell o; have f1 := fun o => HB1.out.frozen o; have z1 := HB1.out.lt; (try dsimp only at c1); (try simp only [Nat.add_zero] at c0 f0 z0); clear hK) | (go_at_call 58; (with_reducible refine (r_Eq_F S S' s s' m.stack n.stack _ hl2 ((HLs.out.below HK.out.below).more HK.out.below.size) ((HMs.out.below HK.out.below).more HK.out.below.size)).mono ?_); intro e w2 hr; obtain ⟨rfl, hb, hc, hf, hz⟩ := hr.use; clear hr hc hf; have hK := KeptB.on (HK.out) hb; clear hb hz; have HK := Lib.hid hK; have hbw := hK.below; have HB0 := Lib.hid (hK.box 0 _ rfl); have c0 := fun o => HB0.out.cell o; have f0 := fun o => HB0.out.frozen o; have z0 := HB0.out.lt; (try dsimp only at c0); have HB1 := Lib.hid (hK.box 1 _ rfl); have c1 := fun o => HB1.out.cell o; have f1 := fun o => HB1.out.frozen o; have z1 := HB1.out.lt; (try dsimp only at c1); (try simp only [Nat.add_zero] at c0 f0 z0); clear hK) | (go_at_call 35; (with_reducible refine (r_Eq_I O O' o o' m.out n.out _ hl3 ((HLo.out.below HK.out.below).more HK.out.below.size) ((HMo.out.below HK.out.below).more HK.out.below.size)).mono ?_); intro e w3 hr; obtain ⟨rfl, hb, hc, hf, hz⟩ := hr.use; clear hr hc hf; have hK := KeptB.on (HK.out) hb; clear hb hz; have HK := Lib.hid hK; have hbw := hK.below; have HB0 := Lib.hid (hK.box 0 _ rfl); have c0 := fun o => HB0.out.cell o; have f0 := fun o => HB0.out.frozen o; have z0 := HB0.out.lt; (try dsimp only at c0); have HB1 := Lib.hid (hK.box 1 _ rfl); have c1 := fun o => HB1.out.cell o; have f1 := fun o => HB1.out.frozen o; have z1 := HB1.out.lt; (try dsimp only at c1); (try simp only [Nat.add_zero] at c0 f0 z0); clear hK) | fail)
          go_returns
          exact Ret.bool (by rw [E.out]; simp [*]) (by first | exact hbw | (repeat' (first | (with_reducible exact Below.refl _ _) | (with_reducible assumption) | (with_reducible refine Below.alloc ?_ ?_ _) | (with_reducible refine Below.drew ?_) | (with_reducible refine Below.setCell ?_ ?_ _) | (refine Below.trans ?_ (Below.mono (by with_reducible assumption) ?_)) | go_size)))
        · cases h5 : decide (m.out = n.out)
          · skip
            go_enter Try.func28, Try.ntmps28
            go_wp2_with (first | (refine wpList_load_mid rfl 41 (.tmp 5) rfl w.heap.size 0 rfl rl _ (fun j v hj => (HKB.out.box 0 _ rfl).cell _ |>.trans (hsub j v hj)) Try.underlying41 rfl (by rw [hrn]; kernel_rfl) ?_) | (refine wpList_load_mid rfl 41 (.tmp 7) rfl (w.heap.size + 1) 0 rfl sl _ (fun j v hj => (HKB.out.box 1 _ rfl).cell _ |>.trans (hsub' j v hj)) Try.underlying41 rfl (by rw [hsn]; kernel_rfl) ?_) | (go_at_call 25; (with_reducible refine (r_Eq_V A A' a a' m.mem n.mem _ hl1 ((HLm.out.below HKB.out.below).more HKB.out.below.size) ((HMm.out.below HKB.out.below).more HKB.out.below.size)).mono ?_); intro e w1 hr; obtain ⟨rfl, hb, hc, hf, hz⟩ := hr.use; clear hr hc hf; have hK := KeptB.on (HKB.out) hb; clear hb hz; have HK := Lib.hid hK; have hbw := hK.below; have HB0 := Lib.hid (hK.box 0 _ rfl); have c0 := fun o => HB0.out.cell o; have f0 := fun o => HB0.out.frozen o; have z0 := HB0.out.lt; (try dsimp only at c0); have HB1 := Lib.hid (hK.box 1 _ rfl); have c1 := fun o => HB1.out.cell o; have f1 := fun o => HB1.out.frozen o; have z1 := HB1.out.lt; (try dsimp only at c1); (try simp only [Nat.add_zero] at c0 f0 z0); clear hK) | (go_at_call 58; (with_reducible refine (r_Eq_F S S' s s' m.stack n.stack _ hl2 ((HLs.out.below HK.out.below).more HK.out.below.size) ((HMs.out.below HK.out.below).more HK.out.below.size)).mono ?_); intro e w2 hr; obtain ⟨rfl, hb, hc, hf, hz⟩ := hr.use; clear hr hc hf; have hK := KeptB.on (HK.out) hb; clear hb hz; have HK := Lib.hid hK; have hbw := hK.below; have HB0 := Lib.hid (hK.box 0 _ rfl); have c0 := fun o => HB0.out.cell o; have f0 := fun o => HB0.out.frozen o; have z0 := HB0.out.lt; (try dsimp only at c0); have HB1 := Lib.hid (hK.box 1 _ rfl); have c1 := fun o => HB1.out.cell o; have f1 := fun o => HB1.out.frozen o; have z1 := HB1.out.lt; (try dsimp only at c1); (try simp only [Nat.add_zero] at c0 f0 z0); clear hK) | (go_at_call 35; (with_reducible refine (r_Eq_I O O' o o' m.out n.out _ hl3 ((HLo.out.below HK.out.below).more HK.out.below.size) ((HMo.out.below HK.out.below).more HK.out.below.size)).mono ?_); intro e w3 hr; obtain ⟨rfl, hb, hc, hf, hz⟩ := hr.use; clear hr hc hf; have hK := KeptB.on (HK.out) hb; clear hb hz; have HK := Lib.hid hK; have hbw := hK.below; have HB0 := Lib.hid (hK.box 0 _ rfl); have c0 := fun o => HB0.out.cell o; have f0 := fun o => HB0.out.frozen o; have z0 := HB0.out.lt; (try dsimp only at c0); have HB1 := Lib.hid (hK.box 1 _ rfl); have c1 := fun o => HB1.out.cell o; have f1 := fun o => HB1.out.frozen o; have z1 := HB1.out.lt; (try dsimp only at c1); (try simp only [Nat.add_zero] at c0 f0 z0); clear hK) | fail)
            go_returns
            exact Ret.bool (by rw [E.out]; simp [*]) (by first | exact hbw | (repeat' (first | (with_reducible exact Below.refl _ _) | (with_reducible assumption) | (with_reducible refine Below.alloc ?_ ?_ _) | (with_reducible refine Below.drew ?_) | (with_reducible refine Below.setCell ?_ ?_ _) | (refine Below.trans ?_ (Below.mono (by with_reducible assumption) ?_)) | go_size)))
          · skip
            go_enter Try.func28, Try.ntmps28
            go_wp2_with (first | (refine wpList_load_mid rfl 41 (.tmp 5) rfl w.heap.size 0 rfl rl _ (fun j v hj => (HKB.out.box 0 _ rfl).cell _ |>.trans (hsub j v hj)) Try.underlying41 rfl (by rw [hrn]; kernel_rfl) ?_) | (refine wpList_load_mid rfl 41 (.tmp 7) rfl (w.heap.size + 1) 0 rfl sl _ (fun j v hj => (HKB.out.box 1 _ rfl).cell _ |>.trans (hsub' j v hj)) Try.underlying41 rfl (by rw [hsn]; kernel_rfl) ?_) | (go_at_call 25; (with_reducible refine (r_Eq_V A A' a a' m.mem n.mem _ hl1 ((HLm.out.below HKB.out.below).more HKB.out.below.size) ((HMm.out.below HKB.out.below).more HKB.out.below.size)).mono ?_); intro e w1 hr; obtain ⟨rfl, hb, hc, hf, hz⟩ := hr.use; clear hr hc hf; have hK := KeptB.on (HKB.out) hb; clear hb hz; have HK := Lib.hid hK; have hbw := hK.below; have HB0 := Lib.hid (hK.box 0 _ rfl); have c0 := fun o => HB0.out.cell o; have f0 := fun o => HB0.out.frozen o; have z0 := HB0.out.lt; (try dsimp only at c0); have HB1 := Lib.hid (hK.box 1 _ rfl); have c1 := fun o => HB1.out.cell o; have f1 := fun o => HB1.out.frozen o; have z1 := HB1.out.lt; (try dsimp only at c1); (try simp only [Nat.add_zero] at c0 f0 z0); clear hK) | (go_at_call 58; (with_reducible refine (r_Eq_F S S' s s' m.stack n.stack _ hl2 ((HLs.out.below HK.out.below).more HK.out.below.size) ((HMs.out.below HK.out.below).more HK.out.below.size)).mono ?_); intro e w2 hr; obtain ⟨rfl, hb, hc, hf, hz⟩ := hr.use; clear hr hc hf; have hK := KeptB.on (HK.out) hb; clear hb hz; have HK := Lib.hid hK; have hbw := hK.below; have HB0 := Lib.hid (hK.box 0 _ rfl); have c0 := fun o => HB0.out.cell o; have f0 := fun o => HB0.out.frozen o; have z0 := HB0.out.lt; (try dsimp only at c0); have HB1 := Lib.hid (hK.box 1 _ rfl); have c1 := fun o => HB1.out.cell o; have f1 := fun o => HB1.out.frozen o; have z1 := HB1.out.lt; (try dsimp only at c1); (try simp only [Nat.add_zero] at c0 f0 z0); clear hK) | (go_at_call 35; (with_reducible refine (r_Eq_I O O' o o' m.out n.out _ hl3 ((HLo.out.below HK.out.below).more HK.out.below.size) ((HMo.out.below HK.out.below).more HK.out.below.size)).mono ?_); intro e w3 hr; obtain ⟨rfl, hb, hc, hf, hz⟩ := hr.use; clear hr hc hf; have hK := KeptB.on (HK.out) hb; clear hb hz; have HK := Lib.hid hK; have hbw := hK.below; have HB0 := Lib.hid (hK.box 0 _ rfl); have c0 := fun o => HB0.out.cell o; have f0 := fun o => HB0.out.frozen o; have z0 := HB0.out.lt; (try dsimp only at c0); have HB1 := Lib.hid (hK.box 1 _ rfl); have c1 := fun o => HB1.out.cell o; have f1 := fun o => HB1.out.frozen o; have z1 := HB1.out.lt; (try dsimp only at c1); (try simp only [Nat.add_zero] at c0 f0 z0); clear hK) | fail)
            go_returns
            exact Ret.bool (by rw [E.out]; simp [*]) (by first | exact hbw | (repeat' (first | (with_reducible exact Below.refl _ _) | (with_reducible assumption) | (with_reducible refine Below.alloc ?_ ?_ _) | (with_reducible refine Below.drew ?_) | (with_reducible refine Below.setCell ?_ ?_ _) | (refine Below.trans ?_ (Below.mono (by with_reducible assumption) ?_)) | go_size)))
end Go.Proofs.Ytnbppchpgagliaa
