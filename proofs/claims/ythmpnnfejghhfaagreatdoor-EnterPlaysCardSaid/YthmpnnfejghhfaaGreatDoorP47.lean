/- What the parts say: MachineEq of the reference: as the plain machines are. Conditions: none. -/
import Derived.Test.YthmpnnfejghhfaaGreatDoorP46
import Derived.ChangeKeysEq
import Derived.Test.YthmpnnfejghhfaaGreatDoorP12
set_option linter.unusedVariables false
set_option linter.unusedSimpArgs false
namespace Go.Proofs.YthmpnnfejghhfaaGreatDoor
theorem az2 {P : Prop} (h : P := by
  skip
  go_enter Tryz.func14, Tryz.ntmps14
  go_wp2_with (first | (refine wpList_load_mid rfl 26 (.tmp 5) rfl w.heap.size 0 rfl rl _ (fun j v hj => (HKB.out.box 0 _ rfl).cell _ |>.trans (hsub j v hj)) Tryz.underlying26 rfl (by rw [hrn]; kernel_rfl) ?_) | (refine wpList_load_mid rfl 26 (.tmp 7) rfl (w.heap.size + 1) 0 rfl sl _ (fun j v hj => (HKB.out.box 1 _ rfl).cell _ |>.trans (hsub' j v hj)) Tryz.underlying26 rfl (by rw [hsn]; kernel_rfl) ?_) | (go_at_call 23; (with_reducible refine (r_Eq_V A A' a a' m.mem n.mem _ hl1 ((HLm.out.below HKB.out.below).more HKB.out.below.size) ((HMm.out.below HKB.out.below).more HKB.out.below.size)).mono ?_); refine am110 ?_; intro w1 hb hz; have hK := KeptB.on (HKB.out) hb; refine am94 ?_; clear hb hz hK; intro HK hbw HB0 HB1 f1 z1 c1 c0 f0 z0) | (go_at_call 32; (with_reducible refine (r_Eq_F S S' s s' m.stack n.stack _ hl2 ((HLs.out.below HK.out.below).more HK.out.below.size) ((HMs.out.below HK.out.below).more HK.out.below.size)).mono ?_); refine am113 ?_; intro w2; intro HK hbw HB0 HB1 f1 z1 c1 c0 f0 z0) | (go_at_call 19; (with_reducible refine (r_Eq_I O O' o o' m.out n.out _ hl3 ((HLo.out.below HK.out.below).more HK.out.below.size) ((HMo.out.below HK.out.below).more HK.out.below.size)).mono ?_); intro e w3 hr; obtain ⟨rfl, hb, hc, hf, hz⟩ := hr.use; clear hr hc hf; have hK := KeptB.on (HK.out) hb; refine am94 ?_; clear hb hz hK; intro HK hbw HB0 HB1 f1 z1 c1 c0 f0 z0) | fail)
  go_returns
  exact Ret.bool (by rw [E.out]; simp [*]) (by first | exact hbw | (repeat' (first | (with_reducible exact Below.refl _ _) | (with_reducible assumption) | (with_reducible refine Below.alloc ?_ ?_ _) | (with_reducible refine Below.drew ?_) | (with_reducible refine Below.setCell ?_ ?_ _) | (refine Below.trans ?_ (Below.mono (by with_reducible assumption) ?_)) | go_size)))) : P := h
open Go.RowKit
set_option maxRecDepth 100000

def SubAt (cs0 : Array Value) (o : Nat) (cs : List Value) : Prop := ∀ j v, cs[j]? = some v → cs0[o + j]? = some v
theorem MachV.regs_sub {w : World} {B : Nat} {mc : Array Value} {m : Mach} (h : MachV w B mc m) : ∃ rl : List Value, rl = m.regs.flatMap encV ∧ SubAt mc 0 rl ∧ rl.length = 56 := by
  refine ⟨_, rfl, fun j v hj => ?_, by rw [flat_len (enc := encV) (size := 7) (fun _ => rfl), h.regs]⟩; obtain ⟨A, S, O, a, s, o, h0, _⟩ := h.ex
  rw [Nat.zero_add, h0, List.getElem?_toArray]
  unfold machL
  rw [List.getElem?_append_left (List.getElem?_eq_some_iff.1 hj).1]
  exact hj
theorem Mach.ext_ {a b : Mach} : a = b ↔ (a.regs = b.regs ∧ a.code = b.code ∧ a.mem = b.mem ∧ a.stack = b.stack ∧ a.out = b.out) := by
  cases a; cases b; simp
instance : DecidableEq Mach := fun a b => decidable_of_iff _ Mach.ext_.symm
theorem mach_dec (a b : Mach) : decide (a = b) = (decide (a.regs = b.regs) && decide (a.code = b.code) && decide (a.mem = b.mem) && decide (a.stack = b.stack) && decide (a.out = b.out)) := by
  rw [Bool.eq_iff_iff]
  simp only [Bool.and_eq_true, decide_eq_true_eq, Mach.ext_, and_assoc]
theorem run_part_regs {regs : List Val} {i : Nat} {v : Val} (hl : regs.length = 8) (hv : regs[i]? = some v) {rl : List Value} (hr : rl = regs.flatMap encV) (w : World) :
    (part 25 rl.toArray (i * 7)).run Tryz.prog w = .ok (.agg #[.bool v.is, .int .i64 v.n, .int .i64 v.key.perm, .int .i64 v.key.base, .int .i64 v.key.len, .int .i64 v.key.pos, .int .i64 v.key.tag]) w := by
  have hi : i < 8 := by have := (List.getElem?_eq_some_iff.1 hv).1; omega
  have he : (rl.drop (i * 7)).take 7 = [.bool v.is, .int .i64 v.n, .int .i64 v.key.perm, .int .i64 v.key.base, .int .i64 v.key.len, .int .i64 v.key.pos, .int .i64 v.key.tag] := by
    exact az63
  simp [part, Tryz.isAgg25, Tryz.sizeOf25, he, hi]
theorem eqItems_regs (d : Nat) {xs ys : List Val} (hx : xs.length = 8) (hy : ys.length = 8) {rl sl : List Value} (hr : rl = xs.flatMap encV) (hs : sl = ys.flatMap encV) (w : World) : ∀ is : List Nat, (∀ i ∈ is, i < 8) →
    (Op.eqItems (d + 4) 25 7 rl.toArray sl.toArray is).run Tryz.prog w = .ok (is.all fun i => decide (xs[i]? = ys[i]?)) w
  | [], _ => by simp [Op.eqItems]
  | i :: is, h => by
    have hi := h i (by simp)
    obtain ⟨v, hv⟩ : ∃ v, xs[i]? = some v := ⟨_, List.getElem?_eq_getElem (by omega)⟩
    obtain ⟨u, hu⟩ : ∃ v, ys[i]? = some v := ⟨_, List.getElem?_eq_getElem (by omega)⟩
    have ih := eqItems_regs d hx hy hr hs w is (fun j hj => h j (by simp [hj]))
    have he := eqf_val d v.is v.n v.key.perm v.key.base v.key.len v.key.pos v.key.tag u.is u.n u.key.perm u.key.base u.key.len u.key.pos u.key.tag w
    simp only [Op.eqItems, Sem.run_bind, run_part_regs hx hv hr, run_part_regs hy hu hs, Result.andThen_ok, he, List.all_cons, hv, hu, Option.some.injEq]
    by_cases hd : v = u
    · subst hd
      simpa using ih
    · have : ¬ (Val.mk v.is v.n ⟨v.key.perm, v.key.base, v.key.len, v.key.pos, v.key.tag⟩ = Val.mk u.is u.n ⟨u.key.perm, u.key.base, u.key.len, u.key.pos, u.key.tag⟩) := hd
      simp [hd]
theorem run_eql_regs {xs ys : List Val} (hx : xs.length = 8) (hy : ys.length = 8) {rl sl : List Value} (hr : rl = xs.flatMap encV) (hs : sl = ys.flatMap encV) (w : World) :
    (binOp .eql 26 (.agg rl.toArray) (.agg sl.toArray)).run Tryz.prog w = .ok (.bool (decide (xs = ys))) w := by
  obtain ⟨i, hi⟩ : ∃ i, Tryz.prog.info? 25 = some i := ⟨_, rfl⟩
  have hc : Tryz.prog.cellsOf 25 = 7 := cells_val; have h2 := eqItems_regs 9995 hx hy hr hs w (List.range 8) (fun i hi => List.mem_range.1 hi)
  rw [run_eql_struct, run_equalIn_array w 9999 rl.toArray sl.toArray Tryz.underlying26 hi, hc, h2, Result.andThen_ok]
  congr 2
  rw [Bool.eq_iff_iff, List.all_eq_true]
  simp only [decide_eq_true_eq, List.mem_range]
  constructor
  · intro h
    apply List.ext_getElem?
    intro j
    rcases Nat.lt_or_ge j 8 with hj | hj
    · exact h j hj
    · rw [List.getElem?_eq_none (by omega), List.getElem?_eq_none (by omega)]
  · rintro rfl i _; rfl
set_option maxHeartbeats 4000000 in
theorem r_MachineEq (mc nc : Array Value) (m n : Mach) (w : World) (hm : MachV w w.heap.size mc m) (hn : MachV w w.heap.size nc n) (hl : m.mem.length < 9223372036854775807 ∧ m.stack.length < 9223372036854775807 ∧ m.out.length < 9223372036854775807) :
    Calls Tryz.prog 14 #[.agg mc, .agg nc] w (Ret (.bool (decide (m = n))) w) := by
  obtain ⟨A, S, O, a, s, o, m56, m57, m58, m59, m60, m61, m62, m63, -, -, -, -, -, -, hLm, hLs, hLo, -⟩ := hm.cells; obtain ⟨A', S', O', a', s', o', n56, n57, n58, n59, n60, n61, n62, n63, -, -, -, -, -, -, hMm, hMs, hMo, -⟩ := hn.cells; obtain ⟨hl1, hl2, hl3⟩ := hl; obtain ⟨rl, hrl, hsub, hrn⟩ := hm.regs_sub; obtain ⟨sl, hsl, hsub', hsn⟩ := hn.regs_sub; have hreg := run_eql_regs hm.regs hn.regs hrl hsl; have E := Lib.hid (mach_dec m n)
  generalize decide (m = n) = R at E
  have HLm := Lib.hid hLm; have HLs := Lib.hid hLs; have HLo := Lib.hid hLo; have HMm := Lib.hid hMm; have HMs := Lib.hid hMs; have HMo := Lib.hid hMo; have HKB := Lib.hid (((KeptB.nil_ (Below.refl _ w)).more (t := 31) (cs := mc) rfl).more (t := 31) (cs := nc) (by rw [World.size_alloc]; rfl)); clear hLm hLs hLo hMm hMs hMo hrl hsl hm hn
  obtain ⟨p1, h1⟩ : ∃ p, p = decide (m.regs = n.regs) := ⟨_, rfl⟩
  rw [← h1] at E hreg
  clear h1
  cases p1
  · exact az2
  · cases h2 : decide (m.code = n.code)
    · exact az2
    · cases h3 : decide (m.mem = n.mem)
      · exact az2
      · cases h4 : decide (m.stack = n.stack)
        · exact az2
        · cases h5 : decide (m.out = n.out)
          · exact az2
          · exact az2
end Go.Proofs.YthmpnnfejghhfaaGreatDoor
namespace Go.Proofs.YthmpnnfejghhfaaGreatDoor
open Go.RowKit
set_option maxRecDepth 100000

theorem MachV.one {w : World} {B : Nat} {mc : Array Value} {m : Mach} (h : MachV w B mc m) : mc.all (·.oneCell') = true := by
  obtain ⟨A, S, O, a, s, o, rfl, _⟩ := h.ex
  exact machL_one h.regs rfl rfl rfl
theorem r_MachineSame (mc nc : Array Value) (m : Mach) (w : World) (hm : MachV w w.heap.size mc m) (hn : MachV w w.heap.size nc m) (hl : m.mem.length < 9223372036854775807 ∧ m.stack.length < 9223372036854775807 ∧ m.out.length < 9223372036854775807) :
    Calls Tryz.prog 14 #[.agg mc, .agg nc] w (Ret (.bool true) w) := by
  have := r_MachineEq mc nc m m w hm hn hl
  rwa [decide_eq_true (rfl : m = m)] at this
theorem MachV.grow {w w' : World} {mc : Array Value} {m : Mach} (h : MachV w w.heap.size mc m) (hb : Below w.heap.size w w') : MachV w' w'.heap.size mc m := (h.below hb).more hb.size
end Go.Proofs.YthmpnnfejghhfaaGreatDoor
