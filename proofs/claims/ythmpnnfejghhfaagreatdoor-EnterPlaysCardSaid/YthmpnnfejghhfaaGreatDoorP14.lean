/- What the parts say: A machine of its own (Copied); the broom's strokes. Conditions: none. -/
import Derived.Test.YthmpnnfejghhfaaGreatDoorP12
import Derived.Test.YthmpnnfejghhfaaGreatDoorP13
set_option linter.unusedVariables false
set_option linter.unusedSimpArgs false
namespace Go.Proofs.YthmpnnfejghhfaaGreatDoor
open Go.RowKit
set_option maxRecDepth 100000

def Under (v : Value) (B : Nat) : Prop := ∀ k, v.ownBlock = some k → k < B
structure MachO (P : Program) (tV tF tI : TypeId) (w : World) (B : Nat) (mc : Array Value) (m : Mach) : Prop where
  ex : ∃ (va vs vo : Value) (B1 B2 : Nat), mc = (machL m.regs m.code va vs vo).toArray ∧ Own encV tV 7 w B va m.mem ∧ Under va B1 ∧ B ≤ B1 ∧ Own encF tF 12 w B1 vs m.stack ∧ Under vs B2 ∧ B1 ≤ B2 ∧ Own encI tI 1 w B2 vo m.out
  regs : m.regs.length = 8
theorem c_Clone_F (A : Option Addr) (c : Nat) (xs : List _) (w : World) (hn : xs.length ≤ maxLen) (hbig : xs.length * 96 ≤ 140737488355328) (hL : Lies encF 12 w w.heap.size A xs) :
    Calls Tryz.prog 48 #[.slice A xs.length c] w (RetOwn encF 73 12 w xs fun v => v) := by
  have q22 := fun (w : World) (a : Option Addr) (n c n' c' : Nat) => Lib.run_eql_slice_nil (P := Tryz.prog) w _ _ a n c n' c' Tryz.underlying28
  cases A with
  | none =>
    have hx : xs = [] := hL.of_none
    subst hx
    go_enter Tryz.func48, Tryz.ntmps48
    go_wp2
    go_ret
    exact RetOwn.mk (f := fun v => v) (fun _ => rfl) Own.nil_ bel
  | some a =>
    have H := Lib.hid hL; clear hL
    go_enter Tryz.func48, Tryz.ntmps48
    go_wp2_with (at_builtin; refine wpList_app rfl _ _ rfl el_F (Own.made w #[] 0 w.heap.size (Nat.le_refl _) (Nat.zero_le _) (by simp)) (H.out.keep (w' := w.alloc (.cells #[] 73)) fun p hp => World.cell?_alloc_lt w _ p hp) rfl rfl rfl (by simpa using hn) (by simpa using hbig) (by simp [World.size_alloc]) ?_)
    exact az51
theorem r_Copy_F (A : Option Addr) (c : Nat) (xs : List _) (w : World) (hn : xs.length ≤ maxLen) (hbig : xs.length * 96 ≤ 140737488355328) (hL : Lies encF 12 w w.heap.size A xs) :
    Calls Tryz.prog 69 #[.slice A xs.length c] w (RetOwn encF 73 12 w xs fun v => v) := by
  have H := Lib.hid hL; clear hL
  go_enter Tryz.func69, Tryz.ntmps69
  go_wp2_with (at_builtin; refine wpList_app rfl _ _ rfl el_F (Own.nil_ (base := w.heap.size)) H.out rfl rfl rfl (by simpa using hn) (by simpa using hbig) (Nat.le_refl _) ?_)
  exact az55
def zeroMC : Array Value := (machL (List.replicate 8 ⟨false, 0, Key.zero⟩) Key.zero nilS nilS nilS).toArray
theorem copyB (mc : Array Value) (w : World) : KeptB w [(mc, 31)] (w.alloc (.cells mc 31)) := (KeptB.nil_ (Below.refl _ w)).more (t := 31) (cs := mc) rfl
set_option maxHeartbeats 1000000 in
theorem c_step_Copied (mc : Array Value) (m : Mach) (w : World) (hm : MachV w w.heap.size mc m) (h1 : m.mem.length ≤ 400) (h2 : m.stack.length ≤ 16) (h3 : m.out.length ≤ 100) :
    Calls Tryz.prog 28 #[.agg mc] w (fun e w' => ∃ mc', e = .returned (.agg mc') ∧ MachO Tryz.prog 25 73 3 w' w.heap.size mc' m ∧ Below w.heap.size w w') := by
  obtain ⟨A, S, O, a, s, o, h0, -, -, -, -, -, -, hLm, hLs, hLo⟩ := hm.ex; have hl8 := hm.regs
  subst h0
  have m61 := fun j => machL_tail (k := m.code) (a := .slice A m.mem.length a) (b := .slice S m.stack.length s) (c := .slice O m.out.length o) hl8 j
  have c61 : (machL m.regs m.code (.slice A m.mem.length a) (.slice S m.stack.length s) (.slice O m.out.length o)).toArray[61]? = some (.slice A m.mem.length a) := by rw [List.getElem?_toArray]; exact m61 5
  have c62 : (machL m.regs m.code (.slice A m.mem.length a) (.slice S m.stack.length s) (.slice O m.out.length o)).toArray[62]? = some (.slice S m.stack.length s) := by rw [List.getElem?_toArray]; exact m61 6
  have c63 : (machL m.regs m.code (.slice A m.mem.length a) (.slice S m.stack.length s) (.slice O m.out.length o)).toArray[63]? = some (.slice O m.out.length o) := by rw [List.getElem?_toArray]; exact m61 7
  have HB := Lib.hid ((((copyB (machL m.regs m.code (.slice A m.mem.length a) (.slice S m.stack.length s) (.slice O m.out.length o)).toArray w).alloc (.cells zeroMC 31))).box 0 _ rfl); have HR := Lib.hid (Box.new (w.alloc (.cells (machL m.regs m.code (.slice A m.mem.length a) (.slice S m.stack.length s) (.slice O m.out.length o)).toArray 31)) 31 zeroMC (g := w.heap.size + 1) (by rw [World.size_alloc])); have HLm := Lib.hid hLm; have HLs := Lib.hid hLs; have HLo := Lib.hid hLo; have H8 := Lib.hid hl8; clear hLm hLs hLo hm m61 hl8
  generalize hmc : (machL m.regs m.code (.slice A m.mem.length a) (.slice S m.stack.length s) (.slice O m.out.length o)).toArray = mc at c61 c62 c63 HB HR ⊢
  have HMC := Lib.hid hmc; clear hmc
  go_enter Tryz.func28, Tryz.ntmps28
  go_wp2_with fail
  refine wp_region_G 10 (fun W => W.cell? ⟨w.heap.size, 61, none⟩ = some (.slice A m.mem.length a) ∧ W.cell? ⟨w.heap.size, 62, none⟩ = some (.slice S m.stack.length s) ∧ W.cell? ⟨w.heap.size, 63, none⟩ = some (.slice O m.out.length o)) (by kernel_rfl) ?_ (fun hHeld => ?_)
  exact ⟨(HB.out.cell 61).trans c61, (HB.out.cell 62).trans c62, (HB.out.cell 63).trans c63⟩
  (refine takeGp (i := 0) rfl (by kernel_rfl) (by kernel_rfl) (by kernel_rfl) (fun _ _ _ _ h => h) (by rfl) (by assumption) ?_; refine' ⟨_, ?_, ?_⟩; rotate_left; (focus (intro w; go_simp; first | done | with_reducible rfl)); (try simp only [Act.put, List.setIfInBounds_toArray, List.set_cons_zero, List.set_cons_succ]))
  (refine takeG (i := 1) rfl (by kernel_rfl) (by kernel_rfl) (by kernel_rfl) (fun _ _ _ _ h => h) (by rfl) (by assumption) ?_; refine' ⟨_, ?_, ?_⟩; rotate_left; (focus (intro w hSw; (try dsimp only at hSw); go_simp; first | done | with_reducible rfl)); (try simp only [Act.put, List.setIfInBounds_toArray, List.set_cons_zero, List.set_cons_succ]))
  (refine takeGp (i := 3) rfl (by kernel_rfl) (by kernel_rfl) (by kernel_rfl) (fun _ _ _ _ h => h) (by rfl) (by assumption) ?_; refine' ⟨_, ?_, ?_⟩; rotate_left; (focus (intro w; go_simp; first | done | with_reducible rfl)); (try simp only [Act.put, List.setIfInBounds_toArray, List.set_cons_zero, List.set_cons_succ]))
  (refine takeG (i := 4) rfl (by kernel_rfl) (by kernel_rfl) (by kernel_rfl) (fun _ _ _ _ h => h) (by rfl) (by assumption) ?_; refine' ⟨_, ?_, ?_⟩; rotate_left; (focus (intro w hSw; (try dsimp only at hSw); go_simp; first | done | with_reducible rfl)); (try simp only [Act.put, List.setIfInBounds_toArray, List.set_cons_zero, List.set_cons_succ]))
  (refine takeGp (i := 6) rfl (by kernel_rfl) (by kernel_rfl) (by kernel_rfl) (fun _ _ _ _ h => h) (by rfl) (by assumption) ?_; refine' ⟨_, ?_, ?_⟩; rotate_left; (focus (intro w; go_simp; first | done | with_reducible rfl)); (try simp only [Act.put, List.setIfInBounds_toArray, List.set_cons_zero, List.set_cons_succ]))
  (refine takeG (i := 7) rfl (by kernel_rfl) (by kernel_rfl) (by kernel_rfl) (fun _ _ _ _ h => h) (by rfl) (by assumption) ?_; refine' ⟨_, ?_, ?_⟩; rotate_left; (focus (intro w hSw; (try dsimp only at hSw); go_simp; first | done | with_reducible rfl)); (try simp only [Act.put, List.setIfInBounds_toArray, List.set_cons_zero, List.set_cons_succ]))
  refine oneG (i := 2) (by kernel_rfl) rfl (fun K hK => ?_); go_simp; refine (c_Clone_V A a m.mem _ (by unfold maxLen; omega) (by omega) ((HLm.out.below bel).more (by ((try simp only [World.size_alloc, World.size_setCell, World.size_drew]) <;> omega)))).mono ?_; rintro e w1 ⟨A1, k1, rfl, hO1, -, hb1⟩; have HB1 := Lib.hid (HB.out.drew.on hb1); have HR1 := Lib.hid (HR.out.drew.on hb1); have hbw1 : Below w.heap.size w w1 := Below.trans bel (hb1.mono (by ((try simp only [World.size_alloc, World.size_setCell, World.size_drew]) <;> omega))); have HO1 := Lib.hid (hO1.base_mono (b := w.heap.size + 2) (by ((try simp only [World.size_alloc, World.size_setCell, World.size_drew]) <;> omega))); have hu1 := (hO1.lt)
  have hz1 : w.heap.size + 2 ≤ w1.heap.size := by have := hb1.size; simp only [World.size_alloc, World.size_setCell, World.size_drew] at this; omega
  clear hO1 hb1 HB HR; refine hK.out _ _ ⟨(HB1.out.cell 61).trans c61, (HB1.out.cell 62).trans c62, (HB1.out.cell 63).trans c63⟩ (fun hHeld => ?_); clear hK K
  (refine takeGp (i := 9) rfl (by kernel_rfl) (by kernel_rfl) (by kernel_rfl) (fun _ _ _ _ h => h) (by rfl) (by assumption) ?_; refine' ⟨_, ?_, ?_⟩; rotate_left; (focus (intro w; go_simp; first | done | with_reducible rfl)); (try simp only [Act.put, List.setIfInBounds_toArray, List.set_cons_zero, List.set_cons_succ]))
  refine oneG (i := 5) (by kernel_rfl) rfl (fun K hK => ?_); go_simp; refine (c_Clone_F S s m.stack _ (by unfold maxLen; omega) (by omega) ((HLs.out.below hbw1).more (by omega))).mono ?_; rintro e w2 ⟨A2, k2, rfl, hO2, -, hb2⟩; have HB2 := Lib.hid (HB1.out.on hb2); have HR2 := Lib.hid (HR1.out.on hb2); have hbw2 : Below w.heap.size w w2 := hbw1.trans (hb2.mono (by omega)); have HO12 := Lib.hid (HO1.out.below hb2 (Nat.le_refl _)); have HO2 := Lib.hid hO2; have hz2 : w1.heap.size ≤ w2.heap.size := hb2.size; clear hO2 hb2 HB1 HR1; refine hK.out _ _ ⟨(HB2.out.cell 61).trans c61, (HB2.out.cell 62).trans c62, (HB2.out.cell 63).trans c63⟩ (fun hHeld => ?_); clear hK K; refine oneG (i := 8) (by kernel_rfl) rfl (fun K hK => ?_); go_simp; refine (c_Clone_I O o m.out _ (by unfold maxLen; omega) (by omega) ((HLo.out.below hbw2).more (by omega))).mono ?_; rintro e w3 ⟨A3, k3, rfl, hO3, -, hb3⟩; have HB3 := Lib.hid (HB2.out.on hb3); have HR3 := Lib.hid (HR2.out.on hb3); have hbw3 : Below w.heap.size w w3 := hbw2.trans (hb3.mono (by omega)); have HO13 := Lib.hid (HO12.out.below hb3 (Nat.le_refl _)); have HO23 := Lib.hid (HO2.out.below hb3 (Nat.le_refl _)); have HO3 := Lib.hid hO3; have hz3 : w2.heap.size ≤ w3.heap.size := hb3.size; clear hO3 hb3 HB2 HR2; refine hK.out _ _ ⟨(HB3.out.cell 61).trans c61, (HB3.out.cell 62).trans c62, (HB3.out.cell 63).trans c63⟩ (fun hHeld => ?_); clear hK K; have c3 : ∀ o, w3.cell? ⟨w.heap.size, o, none⟩ = mc[o]? := HB3.out.cell; have f3 : ∀ o, w3.frozen? ⟨w.heap.size, o, none⟩ = false := HB3.out.frozen; refine oneGs (i := 10) (by kernel_rfl) rfl (by kernel_rfl) (fun K hK => ?_); go_simp; refine hK.out _ _ ?_; clear hK K
  (refine takeGq (i := 11) rfl (by kernel_rfl) (by kernel_rfl) (by kernel_rfl) (fun _ _ _ _ h => h) (by rfl) (by kernel_rfl) ?_; refine' ⟨_, ?_, ?_⟩; rotate_left; (focus (intro w; go_simp; first | done | with_reducible rfl)); (try simp only [Act.put, List.setIfInBounds_toArray, List.set_cons_zero, List.set_cons_succ]))
  refine oneGs (i := 12) (by kernel_rfl) rfl (by kernel_rfl) (fun K hK => ?_); go_simp; refine hK.out _ _ ?_; clear hK K
  (refine takeGq (i := 13) rfl (by kernel_rfl) (by kernel_rfl) (by kernel_rfl) (fun _ _ _ _ h => h) (by rfl) (by kernel_rfl) ?_; refine' ⟨_, ?_, ?_⟩; rotate_left; (focus (intro w; go_simp; first | done | with_reducible rfl)); (try simp only [Act.put, List.setIfInBounds_toArray, List.set_cons_zero, List.set_cons_succ]))
  refine oneGs (i := 14) (by kernel_rfl) rfl (by kernel_rfl) (fun K hK => ?_); go_simp; refine hK.out _ _ ?_; clear hK K; refine doneG (by kernel_rfl) ?_ _; have hb1 : w.heap.size + 2 ≤ w1.heap.size ∧ w1.heap.size ≤ w2.heap.size ∧ w2.heap.size ≤ w3.heap.size := ⟨hz1, hz2, hz3⟩
  have HX := Lib.hid (show Box (((w3.setCell ⟨w.heap.size, 61, none⟩ (.slice A1 m.mem.length k1)).setCell ⟨w.heap.size, 62, none⟩ (.slice A2 m.stack.length k2)).setCell ⟨w.heap.size, 63, none⟩ (.slice A3 m.out.length k3)) w.heap.size 31 (machL m.regs m.code (.slice A1 m.mem.length k1) (.slice A2 m.stack.length k2) (.slice A3 m.out.length k3)).toArray from by
    have h := ((HB3.out.set_ 61 (.slice A1 m.mem.length k1)).set_ 62 (.slice A2 m.stack.length k2)).set_ 63 (.slice A3 m.out.length k3); simp only [← HMC.out, List.setIfInBounds_toArray] at h
    rw [machL_mem H8.out, machL_stack H8.out, machL_out H8.out] at h
    exact h)
  have HY := Lib.hid (((HR3.out.far (p := ⟨w.heap.size, 61, none⟩) (show w.heap.size + 1 ≠ w.heap.size by omega) (.slice A1 m.mem.length k1)).far (p := ⟨w.heap.size, 62, none⟩) (show w.heap.size + 1 ≠ w.heap.size by omega) (.slice A2 m.stack.length k2)).far (p := ⟨w.heap.size, 63, none⟩) (show w.heap.size + 1 ≠ w.heap.size by omega) (.slice A3 m.out.length k3)); have HM1 := Lib.hid (((HO13.out.far (p := ⟨w.heap.size, 61, none⟩) (fun h => by have := HO13.out.lt _ h; dsimp only at this; omega) (.slice A1 m.mem.length k1)).far (p := ⟨w.heap.size, 62, none⟩) (fun h => by have := HO13.out.lt _ h; dsimp only at this; omega) (.slice A2 m.stack.length k2)).far (p := ⟨w.heap.size, 63, none⟩) (fun h => by have := HO13.out.lt _ h; dsimp only at this; omega) (.slice A3 m.out.length k3)); have HM2 := Lib.hid (((HO23.out.far (p := ⟨w.heap.size, 61, none⟩) (fun h => by have := HO23.out.lt _ h; dsimp only at this; omega) (.slice A1 m.mem.length k1)).far (p := ⟨w.heap.size, 62, none⟩) (fun h => by have := HO23.out.lt _ h; dsimp only at this; omega) (.slice A2 m.stack.length k2)).far (p := ⟨w.heap.size, 63, none⟩) (fun h => by have := HO23.out.lt _ h; dsimp only at this; omega) (.slice A3 m.out.length k3)); have HM3 := Lib.hid (((HO3.out.far (p := ⟨w.heap.size, 61, none⟩) (fun h => by have := HO3.out.lt _ h; dsimp only at this; omega) (.slice A1 m.mem.length k1)).far (p := ⟨w.heap.size, 62, none⟩) (fun h => by have := HO3.out.lt _ h; dsimp only at this; omega) (.slice A2 m.stack.length k2)).far (p := ⟨w.heap.size, 63, none⟩) (fun h => by have := HO3.out.lt _ h; dsimp only at this; omega) (.slice A3 m.out.length k3)); have HBW := Lib.hid (((hbw3.setCell (p := ⟨w.heap.size, 61, none⟩) (Nat.le_refl _) (.slice A1 m.mem.length k1)).setCell (p := ⟨w.heap.size, 62, none⟩) (Nat.le_refl _) (.slice A2 m.stack.length k2)).setCell (p := ⟨w.heap.size, 63, none⟩) (Nat.le_refl _) (.slice A3 m.out.length k3)); have HU1 := Lib.hid (hu1); have HU2 := Lib.hid (HO2.out.lt); clear hHeld c3 f3 HB3 HR3 HO13 HO23 HO3 HO2 HO1 HO12 hu1 hbw1 hbw2 hbw3
  generalize (((w3.setCell ⟨w.heap.size, 61, none⟩ (.slice A1 m.mem.length k1)).setCell ⟨w.heap.size, 62, none⟩ (.slice A2 m.stack.length k2)).setCell ⟨w.heap.size, 63, none⟩ (.slice A3 m.out.length k3)) = w4 at HX HY HM1 HM2 HM3 HBW ⊢
  have hn64 : (machL m.regs m.code (.slice A1 m.mem.length k1) (.slice A2 m.stack.length k2) (.slice A3 m.out.length k3)).toArray.size = 64 := (by rw [List.size_toArray, machL_length H8.out]); have T1 := Lib.hid (show (Tryz.prog.info? 31).map (·.size) = some (machL m.regs m.code (.slice A1 m.mem.length k1) (.slice A2 m.stack.length k2) (.slice A3 m.out.length k3)).toArray.size by rw [hn64]; kernel_rfl); have T2 := Lib.hid (show zeroMC.size = (machL m.regs m.code (.slice A1 m.mem.length k1) (.slice A2 m.stack.length k2) (.slice A3 m.out.length k3)).toArray.size from hn64.symm); have T3 := Lib.hid (machL_one (k := m.code) H8.out (a := .slice A1 m.mem.length k1) (b := .slice A2 m.stack.length k2) (c := .slice A3 m.out.length k3) rfl rfl rfl); clear hn64
  go_wp2_with (first | (refine wpList_load_box rfl 31 (.tmp 1) rfl HX.out rfl Tryz.underlying31 rfl T1.out ?_) | (refine wpList_store_box rfl 31 (.tmp 2) (.tmp 15) rfl HY.out rfl rfl T1.out T2.out T3.out ?_; intro w5 hbw5 hgw5 hzw5) | fail)
  (try simp only [Exit.inBlock, Exit.then]); refine bodyPost_ret (results_c rfl rfl hbw5 Tryz.underlying31 rfl T1.out) rfl ?_
  refine ⟨_, rfl, ⟨⟨_, _, _, w1.heap.size, w2.heap.size, rfl, (HM1.out.kept hgw5 (.inl fun h => by have := HM1.out.lt _ h; omega)).base_mono (by omega), fun k hk => (HU1.out k hk).2, by omega, (HM2.out.kept hgw5 (.inl fun h => by have := HM2.out.lt _ h; omega)), fun k hk => (HU2.out k hk).2, by omega, (HM3.out.kept hgw5 (.inl fun h => by have := HM3.out.lt _ h; omega))⟩, H8.out⟩, HBW.out.grown hgw5 HBW.out.size (fun k hk => by cases hk; omega)⟩
end Go.Proofs.YthmpnnfejghhfaaGreatDoor
namespace Go.Proofs.YthmpnnfejghhfaaGreatDoor
open Go.RowKit
set_option maxRecDepth 100000

structure KeyB (k : Key) : Prop where
  b0 : 0 ≤ k.base
  b1 : k.base ≤ 400
  l0 : 0 ≤ k.len
  l1 : k.len ≤ 400
theorem KeyB.of {k : Key} (h : keyOk k = true) : KeyB k := by
  have := keyOk_iff.1 h
  exact ⟨by omega, by omega, by omega, by omega⟩
structure Stroke (w w' : World) (bb g off : Nat) (tB : TypeId) (cnt : Array Value) (us : List Value) : Prop where
  os : w'.os = w.os
  tape : w'.tape = w.tape
  output : w'.output = w.output
  size : w.heap.size ≤ w'.heap.size
  block : ∀ k, k < w.heap.size → k ≠ bb → k ≠ g → w'.heap[k]? = w.heap[k]?
  cnt : Box w' bb tB cnt
  row : ∀ t cs, Box w g t cs → Box w' g t (setMany cs.toList off us).toArray
theorem setMany_same : ∀ (us ys : List Value) (p : Nat), (∀ j, j < us.length → ys[p + j]? = us[j]?) → setMany ys p us = ys
  | [], _, _, _ => rfl
  | u :: us, ys, p, h => by
    have h0 := h 0 (by simp)
    simp only [Nat.add_zero, List.getElem?_cons_zero] at h0
    obtain ⟨hlt, he⟩ := List.getElem?_eq_some_iff.1 h0
    have hs : ys.set p u = ys := by rw [← he]; exact List.set_getElem_self hlt
    rw [setMany, hs]
    exact setMany_same us ys (p + 1) fun j hj => by
      have := h (j + 1) (by simp; omega)
      rw [List.getElem?_cons_succ] at this
      rw [← this]; congr 1; omega
theorem Stroke.none_ {w w' : World} {bb g off : Nat} {tB : TypeId} {cnt : Array Value} {us : List Value} (hb : Below w.heap.size w w') (hB : Box w bb tB cnt) (hg : g < w.heap.size) (hc : ∀ j, j < us.length → w.cell? ⟨g, off + j, none⟩ = us[j]?) : Stroke w w' bb g off tB cnt us :=
  ⟨hb.os, hb.tape, hb.output, hb.size, fun k hk _ _ => hb.block k hk, hB.on hb, fun t cs h => by
    have hs : setMany cs.toList off us = cs.toList := setMany_same _ _ _ fun j hj => by
      rw [Array.getElem?_toList, ← hc j hj, h.cell]
    rw [hs]
    exact h.on hb⟩
end Go.Proofs.YthmpnnfejghhfaaGreatDoor
namespace Go.Proofs.YthmpnnfejghhfaaGreatDoor
open Go.RowKit
set_option maxRecDepth 100000

section
variable {w w' : World} {bb g off : Nat} {tB : TypeId} {cnt : Array Value} {us : List Value}
theorem Stroke.below (h : Stroke w w' bb g off tB cnt us) {B : Nat} {w0 : World} (hb : Below B w0 w) (hB : B ≤ w.heap.size) (h1 : B ≤ bb) (h2 : B ≤ g) : Below B w0 w' :=
  hb.trans ⟨h.os, h.tape, h.output, h.size, fun k hk => h.block k (by omega) (by omega) (by omega)⟩
theorem Stroke.box (h : Stroke w w' bb g off tB cnt us) {k : Nat} {t : TypeId} {cs : Array Value} (hb : Box w k t cs) (h1 : k ≠ bb) (h2 : k ≠ g) : Box w' k t cs := hb.keep (h.block k hb.lt h1 h2)
theorem Stroke.own {α : Type} {enc : α → List Value} {e : TypeId} {size base : Nat} {v : Value} {xs : List α} (h : Stroke w w' bb g off tB cnt us) (ho : Own enc e size w base v xs) (h1 : v.ownBlock ≠ some bb) (h2 : v.ownBlock ≠ some g) : Own enc e size w' base v xs :=
  ho.keep fun k hk => h.block k (ho.lt k hk).2 (fun he => h1 (by rw [hk, he])) (fun he => h2 (by rw [hk, he]))
end
theorem machV_own {w : World} {B1 B2 B3 : Nat} {tV tF tI : TypeId} {va vs vo : Value} {m : Mach} (h1 : Own encV tV 7 w B1 va m.mem) (h2 : Own encF tF 12 w B2 vs m.stack) (h3 : Own encI tI 1 w B3 vo m.out) (h8 : m.regs.length = 8) : MachV w w.heap.size (machL m.regs m.code va vs vo).toArray m := by
  obtain ⟨A, c, rfl, hL⟩ := h1.lies (fun _ => rfl)
  obtain ⟨S, s, rfl, hM⟩ := h2.lies (fun _ => rfl)
  obtain ⟨O, o, rfl, hN⟩ := h3.lies (fun _ => rfl)
  exact ⟨⟨A, S, O, c, s, o, rfl, h1.cap.1, h1.cap.2, h2.cap.1, h2.cap.2, h3.cap.1, h3.cap.2, hL, hM, hN⟩, h8⟩
end Go.Proofs.YthmpnnfejghhfaaGreatDoor
namespace Go.Proofs.YthmpnnfejghhfaaGreatDoor
open Go.RowKit
set_option maxRecDepth 100000
theorem zeroMC_size : zeroMC.size = 64 := by rw [zeroMC, List.size_toArray, machL_length rfl]
end Go.Proofs.YthmpnnfejghhfaaGreatDoor
