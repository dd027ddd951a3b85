/- What the parts say: The stepper's plain instructions: numbers. Conditions: none. -/
import Derived.Test.YthmpnnfejghhfaaGreatDoorP32
import Derived.Test.YthmpnnfejghhfaaGreatDoorP15
set_option linter.unusedVariables false
set_option linter.unusedSimpArgs false
namespace Go.Proofs.YthmpnnfejghhfaaGreatDoor
theorem az15 {P : Prop} (h : P := by
  refine twoH (i := 13) (j := 14) (by kernel_rfl) rfl rfl (fun K hK => ?_) (fun K hK => ?_)
  · (refine am140 ?_; clear hK K hI; (try clear cF); intro w' hHeld hI cF); refine oneH (i := 14) (by kernel_rfl) rfl (fun K hK => ?_); (refine am93 ?_; clear hK K hI; (try clear cF); intro gx w' hHeld hI cF)
    exact az56
  · (refine am93 ?_; clear hK K hI; (try clear cF); intro gx w' hHeld hI cF)
    obtain ⟨gb14, rfl⟩ : ∃ y, y = gx := ⟨_, rfl⟩
    refine oneH (i := 13) (by kernel_rfl) rfl (fun K hK => ?_); (refine am140 ?_; clear hK K hI; (try clear cF); intro w' hHeld hI cF); refine am151 ?_; clear hI; intro hI
    exact hcont gb14 gb15 w' hI) : P := h
theorem az21 {P : Prop} (h : P := by
  refine twoH (i := 13) (j := 15) (by kernel_rfl) rfl rfl (fun K hK => ?_) (fun K hK => ?_)
  · (refine am140 ?_; clear hK K hI; (try clear cF); intro w' hHeld hI cF); refine oneH (i := 15) (by kernel_rfl) rfl (fun K hK => ?_); (refine am93 ?_; clear hK K hI; (try clear cF); intro gx w' hHeld hI cF)
    exact az84
  · (refine am93 ?_; clear hK K hI; (try clear cF); intro gx w' hHeld hI cF)
    obtain ⟨gb15, rfl⟩ : ∃ y, y = gx := ⟨_, rfl⟩
    refine oneH (i := 13) (by kernel_rfl) rfl (fun K hK => ?_); (refine am140 ?_; clear hK K hI; (try clear cF); intro w' hHeld hI cF)
    exact hcont gb14 gb15 w' hI) : P := h
theorem az32 {P : Prop} (h : P := by
  (refine am93 ?_; clear hK K hI; (try clear cF); intro gx w' hHeld hI cF)
  obtain ⟨gb14, rfl⟩ : ∃ y, y = gx := ⟨_, rfl⟩
  refine oneH (i := 15) (by kernel_rfl) rfl (fun K hK => ?_); (refine am93 ?_; clear hK K hI; (try clear cF); intro gx w' hHeld hI cF)
  exact az84) : P := h
theorem az56 {P : Prop} (h : P := by
  obtain ⟨gb14, rfl⟩ : ∃ y, y = gx := ⟨_, rfl⟩
  refine am151 ?_; clear hI; intro hI
  exact hcont gb14 gb15 w' hI) : P := h
theorem az84 {P : Prop} (h : P := by
  obtain ⟨gb15, rfl⟩ : ∃ y, y = gx := ⟨_, rfl⟩
  exact hcont gb14 gb15 w' hI) : P := h
theorem am93 {P Q : Prop} (k : Q) (h : Hq Q → P := by (intro k_; refine stepI rfl (wpI_alloc 23 rfl hI Tryz.zeroValue23 (cs := #[.int .i64 Key.zero.perm, .int .i64 Key.zero.base, .int .i64 Key.zero.len, .int .i64 Key.zero.pos, .int .i64 Key.zero.tag]) (by first | rfl | kernel_rfl) fun gx w' hI' hb => hK.out _ _ (hI'.held (by simp)) (fun hHeld => ?_)); (try clear hb); refine am92 ?_; clear hI'; (try clear cF); intro hI cF; (try simp only [np, Act.put]); revert cF; revert hI; revert hHeld; revert w'; revert gx; exact k_.out)) : P := h ⟨k⟩
theorem am112 {P Q : Prop} (k : Q) (h : Hq Q → P := by (intro k_; refine am104 ?_; (refine tk 4 ?_; (try simp only [np, Act.put])); (refine tk 5 ?_; (try simp only [np, Act.put])); (refine tk 7 ?_; (try simp only [np, Act.put])); (refine tk 8 ?_; (try simp only [np, Act.put])); (refine tk 9 ?_; (try simp only [np, Act.put])); (refine tk 10 ?_; (try simp only [np, Act.put])); (refine tk 11 ?_; (try simp only [np, Act.put])); (refine tk 12 ?_; (try simp only [np, Act.put])); exact k_.out)) : P := h ⟨k⟩
theorem am140 {P Q : Prop} (k : Q) (h : Hq Q → P := by (intro k_; go_simp; refine (c_key_ok (StAt.of (i := ⟨io, a, b, ic⟩) h8 HMC _ hI) b y hy hb8 hyi).mono ?_; refine am97 ?_; exact k_.out)) : P := h ⟨k⟩
theorem am151 {P Q : Prop} (k : Q) (h : Hq Q → P := by (intro k_; replace hI := InvT.swapAt 5 hI rfl rfl; (try simp only [List.cons_append, List.nil_append, List.set_cons_zero, List.set_cons_succ, List.setIfInBounds_toArray, Act.put, Act.eval, Array.getD_eq_getD_getElem?, List.getElem?_toArray, List.getElem?_cons_zero, List.getElem?_cons_succ, Option.getD_some] at hI); revert hI; exact k_.out)) : P := h ⟨k⟩
theorem am162 {P Q : Prop} (k : Q) (h : Hq Q → P := by (intro k_; go_simp; refine (c_key_ok (StAt.of (i := ⟨io, a, b, ic⟩) h8 HMC _ hI) a x hx ha8 hxi).mono ?_; refine am97 ?_; exact k_.out)) : P := h ⟨k⟩
theorem am193 {P Q : Prop} (k : Q) (h : Hq Q → P := by (intro k_; refine stepI rfl (wpI_storeW _ _ _ rfl hI rfl 7 rfl rfl rfl (by kernel_rfl) (by simp [Value.oneCell']) fun w' hI' => hK.out _ _ (hI'.held (by simp)) (fun hHeld => ?_)); revert hHeld; revert hI'; revert w'; exact k_.out)) : P := h ⟨k⟩
open Go.RowKit
set_option maxRecDepth 100000
section
variable {T : Nat → Prop} {w0 w : World} {gm gs : Nat} {m : Mach} {i : Inst}
set_option maxHeartbeats 2000000 in
theorem c_plain_Add (h : StAt T w0 gm gs m i w) (a b c : Nat) (x y : Val) (ha8 : a < 8) (hb8 : b < 8) (hc8 : c < 8) (hia : i.a = a) (hib : i.b = b) (hic : i.c = c) (hop : i.op = 3) (hx : m.regs[b]? = some x) (hy : m.regs[c]? = some y) (hxi : x.is = false) (hyi : y.is = false) :
    Calls Tryz.prog 82 #[.pointer (some ⟨gs, 0, none⟩)] w fun ed w' => ed = .returned (.tuple #[]) ∧ StAt T w0 gm gs (setN m a (wr (wr x.n + wr y.n))) i w' := by
  obtain ⟨io, ia, ib, ic⟩ := i; dsimp only at hia hib hic hop
  subst hia hib hic hop
  obtain ⟨h8, va, vs, vo, hI⟩ := h; unfold stR at hI; obtain ⟨mc, hmc⟩ : ∃ mc, (machL m.regs m.code va vs vo).toArray = mc := ⟨_, rfl⟩; rw [hmc] at hI; refine am137 ?_; intro HMC H64; clear hmc; have EG := Lib.hid (show ∀ args w, (callFunc 94 args).run Tryz.prog w = .ok (.enter 94 args) w from enters_of Tryz.func94 (by kernel_rfl) rfl)
  go_enter Tryz.func82, Tryz.ntmps82
  have cF := hI.facts; (try simp only [mm] at cF)
  go_wp2_with (first
    | (refine lv 75 hI Tryz.zeroValue75 fun gx w' hI' hb => ?_; (try clear hb); refine am92 ?_; clear hI hI'; (try clear cF); intro hI cF)
    | (go_at_call 93; refine (c_numbers_ok (StAt.of (i := ⟨3, a, b, c⟩) h8 HMC _ hI) _ 94 rfl b c a x y _ hb8 hc8 ha8 rfl rfl rfl hx hy hxi hyi EG.out (fun w => (c_num_Add x.n y.n w).mono fun _ _ h => ⟨h.1, h.2 ▸ Below.refl _ _⟩)).mono ?_; rintro ed w4 ⟨rfl, hP4⟩)
    | fail)
  go_end0
  exact ⟨rfl, hP4⟩
theorem c_plain_Add_no1 (h : StAt T w0 gm gs m i w) (a b c : Nat) (x y : Val) (ha8 : a < 8) (hb8 : b < 8) (hc8 : c < 8) (hia : i.a = a) (hib : i.b = b) (hic : i.c = c) (hop : i.op = 3) (hx : m.regs[b]? = some x) (hy : m.regs[c]? = some y) (hxi : x.is = true) :
    Calls Tryz.prog 82 #[.pointer (some ⟨gs, 0, none⟩)] w (Thr 10 w) := by
  exact az12
theorem c_plain_Add_no2 (h : StAt T w0 gm gs m i w) (a b c : Nat) (x y : Val) (ha8 : a < 8) (hb8 : b < 8) (hc8 : c < 8) (hia : i.a = a) (hib : i.b = b) (hic : i.c = c) (hop : i.op = 3) (hx : m.regs[b]? = some x) (hy : m.regs[c]? = some y) (hxi : x.is = false) (hyi : y.is = true) :
    Calls Tryz.prog 82 #[.pointer (some ⟨gs, 0, none⟩)] w (Thr 10 w) := by
  obtain ⟨io, ia, ib, ic⟩ := i; dsimp only at hia hib hic hop
  subst hia hib hic hop
  refine am131 ?_; intro HP h8 va vs vo hI; generalize (machL m.regs m.code va vs vo).toArray = mc at hI; have H0 := Lib.hid hI; clear h
  go_enter Tryz.func82, Tryz.ntmps82
  have cF := hI.facts; (try simp only [mm] at cF)
  go_wp2_with (first
    | (refine lv 75 hI Tryz.zeroValue75 fun gx w' hI' hb => ?_; (try clear hb); refine am92 ?_; clear hI hI'; (try clear cF); intro hI cF)
    | (go_at_call 93; have hbl := H0.out.same (ts := [_]) hI (by simp); refine (c_numbers_err2 (HP.out.on hbl) 94 b c x y hb8 hc8 rfl rfl hx hy hxi hyi).mono ?_; rintro ed w1 ⟨rfl, hb1⟩)
    | fail)
  exact ⟨rfl, rfl, Below.trans hbl (Below.mono hb1 hbl.size)⟩
set_option maxHeartbeats 2000000 in
theorem c_plain_Sub (h : StAt T w0 gm gs m i w) (a b c : Nat) (x y : Val) (ha8 : a < 8) (hb8 : b < 8) (hc8 : c < 8) (hia : i.a = a) (hib : i.b = b) (hic : i.c = c) (hop : i.op = 4) (hx : m.regs[b]? = some x) (hy : m.regs[c]? = some y) (hxi : x.is = false) (hyi : y.is = false) :
    Calls Tryz.prog 82 #[.pointer (some ⟨gs, 0, none⟩)] w fun ed w' => ed = .returned (.tuple #[]) ∧ StAt T w0 gm gs (setN m a (wr (wr x.n - wr y.n))) i w' := by
  obtain ⟨io, ia, ib, ic⟩ := i; dsimp only at hia hib hic hop
  subst hia hib hic hop
  obtain ⟨h8, va, vs, vo, hI⟩ := h; unfold stR at hI; obtain ⟨mc, hmc⟩ : ∃ mc, (machL m.regs m.code va vs vo).toArray = mc := ⟨_, rfl⟩; rw [hmc] at hI; refine am137 ?_; intro HMC H64; clear hmc; have EG := Lib.hid (show ∀ args w, (callFunc 95 args).run Tryz.prog w = .ok (.enter 95 args) w from enters_of Tryz.func95 (by kernel_rfl) rfl)
  go_enter Tryz.func82, Tryz.ntmps82
  have cF := hI.facts; (try simp only [mm] at cF)
  go_wp2_with (first
    | (refine lv 75 hI Tryz.zeroValue75 fun gx w' hI' hb => ?_; (try clear hb); refine am92 ?_; clear hI hI'; (try clear cF); intro hI cF)
    | (go_at_call 93; refine (c_numbers_ok (StAt.of (i := ⟨4, a, b, c⟩) h8 HMC _ hI) _ 95 rfl b c a x y _ hb8 hc8 ha8 rfl rfl rfl hx hy hxi hyi EG.out (fun w => (c_num_Sub x.n y.n w).mono fun _ _ h => ⟨h.1, h.2 ▸ Below.refl _ _⟩)).mono ?_; rintro ed w4 ⟨rfl, hP4⟩)
    | fail)
  go_end0
  exact ⟨rfl, hP4⟩
theorem c_plain_Sub_no1 (h : StAt T w0 gm gs m i w) (a b c : Nat) (x y : Val) (ha8 : a < 8) (hb8 : b < 8) (hc8 : c < 8) (hia : i.a = a) (hib : i.b = b) (hic : i.c = c) (hop : i.op = 4) (hx : m.regs[b]? = some x) (hy : m.regs[c]? = some y) (hxi : x.is = true) :
    Calls Tryz.prog 82 #[.pointer (some ⟨gs, 0, none⟩)] w (Thr 10 w) := by
  exact az12
theorem c_plain_Sub_no2 (h : StAt T w0 gm gs m i w) (a b c : Nat) (x y : Val) (ha8 : a < 8) (hb8 : b < 8) (hc8 : c < 8) (hia : i.a = a) (hib : i.b = b) (hic : i.c = c) (hop : i.op = 4) (hx : m.regs[b]? = some x) (hy : m.regs[c]? = some y) (hxi : x.is = false) (hyi : y.is = true) :
    Calls Tryz.prog 82 #[.pointer (some ⟨gs, 0, none⟩)] w (Thr 10 w) := by
  obtain ⟨io, ia, ib, ic⟩ := i; dsimp only at hia hib hic hop
  subst hia hib hic hop
  refine am131 ?_; intro HP h8 va vs vo hI; generalize (machL m.regs m.code va vs vo).toArray = mc at hI; have H0 := Lib.hid hI; clear h
  go_enter Tryz.func82, Tryz.ntmps82
  have cF := hI.facts; (try simp only [mm] at cF)
  go_wp2_with (first
    | (refine lv 75 hI Tryz.zeroValue75 fun gx w' hI' hb => ?_; (try clear hb); refine am92 ?_; clear hI hI'; (try clear cF); intro hI cF)
    | (go_at_call 93; have hbl := H0.out.same (ts := [_]) hI (by simp); refine (c_numbers_err2 (HP.out.on hbl) 95 b c x y hb8 hc8 rfl rfl hx hy hxi hyi).mono ?_; rintro ed w1 ⟨rfl, hb1⟩)
    | fail)
  exact ⟨rfl, rfl, Below.trans hbl (Below.mono hb1 hbl.size)⟩
set_option maxHeartbeats 2000000 in
theorem c_plain_Mul (h : StAt T w0 gm gs m i w) (a b c : Nat) (x y : Val) (ha8 : a < 8) (hb8 : b < 8) (hc8 : c < 8) (hia : i.a = a) (hib : i.b = b) (hic : i.c = c) (hop : i.op = 5) (hx : m.regs[b]? = some x) (hy : m.regs[c]? = some y) (hxi : x.is = false) (hyi : y.is = false) :
    Calls Tryz.prog 82 #[.pointer (some ⟨gs, 0, none⟩)] w fun ed w' => ed = .returned (.tuple #[]) ∧ StAt T w0 gm gs (setN m a (wr (wr x.n * wr y.n))) i w' := by
  obtain ⟨io, ia, ib, ic⟩ := i; dsimp only at hia hib hic hop
  subst hia hib hic hop
  obtain ⟨h8, va, vs, vo, hI⟩ := h; unfold stR at hI; obtain ⟨mc, hmc⟩ : ∃ mc, (machL m.regs m.code va vs vo).toArray = mc := ⟨_, rfl⟩; rw [hmc] at hI; refine am137 ?_; intro HMC H64; clear hmc; have EG := Lib.hid (show ∀ args w, (callFunc 96 args).run Tryz.prog w = .ok (.enter 96 args) w from enters_of Tryz.func96 (by kernel_rfl) rfl)
  go_enter Tryz.func82, Tryz.ntmps82
  have cF := hI.facts; (try simp only [mm] at cF)
  go_wp2_with (first
    | (refine lv 75 hI Tryz.zeroValue75 fun gx w' hI' hb => ?_; (try clear hb); refine am92 ?_; clear hI hI'; (try clear cF); intro hI cF)
    | (go_at_call 93; refine (c_numbers_ok (StAt.of (i := ⟨5, a, b, c⟩) h8 HMC _ hI) _ 96 rfl b c a x y _ hb8 hc8 ha8 rfl rfl rfl hx hy hxi hyi EG.out (fun w => (c_num_Mul x.n y.n w).mono fun _ _ h => ⟨h.1, h.2 ▸ Below.refl _ _⟩)).mono ?_; rintro ed w4 ⟨rfl, hP4⟩)
    | fail)
  go_end0
  exact ⟨rfl, hP4⟩
theorem c_plain_Mul_no1 (h : StAt T w0 gm gs m i w) (a b c : Nat) (x y : Val) (ha8 : a < 8) (hb8 : b < 8) (hc8 : c < 8) (hia : i.a = a) (hib : i.b = b) (hic : i.c = c) (hop : i.op = 5) (hx : m.regs[b]? = some x) (hy : m.regs[c]? = some y) (hxi : x.is = true) :
    Calls Tryz.prog 82 #[.pointer (some ⟨gs, 0, none⟩)] w (Thr 10 w) := by
  exact az12
theorem c_plain_Mul_no2 (h : StAt T w0 gm gs m i w) (a b c : Nat) (x y : Val) (ha8 : a < 8) (hb8 : b < 8) (hc8 : c < 8) (hia : i.a = a) (hib : i.b = b) (hic : i.c = c) (hop : i.op = 5) (hx : m.regs[b]? = some x) (hy : m.regs[c]? = some y) (hxi : x.is = false) (hyi : y.is = true) :
    Calls Tryz.prog 82 #[.pointer (some ⟨gs, 0, none⟩)] w (Thr 10 w) := by
  obtain ⟨io, ia, ib, ic⟩ := i; dsimp only at hia hib hic hop
  subst hia hib hic hop
  refine am131 ?_; intro HP h8 va vs vo hI; generalize (machL m.regs m.code va vs vo).toArray = mc at hI; have H0 := Lib.hid hI; clear h
  go_enter Tryz.func82, Tryz.ntmps82
  have cF := hI.facts; (try simp only [mm] at cF)
  go_wp2_with (first
    | (refine lv 75 hI Tryz.zeroValue75 fun gx w' hI' hb => ?_; (try clear hb); refine am92 ?_; clear hI hI'; (try clear cF); intro hI cF)
    | (go_at_call 93; have hbl := H0.out.same (ts := [_]) hI (by simp); refine (c_numbers_err2 (HP.out.on hbl) 96 b c x y hb8 hc8 rfl rfl hx hy hxi hyi).mono ?_; rintro ed w1 ⟨rfl, hb1⟩)
    | fail)
  exact ⟨rfl, rfl, Below.trans hbl (Below.mono hb1 hbl.size)⟩
set_option maxHeartbeats 2000000 in
theorem c_plain_Less (h : StAt T w0 gm gs m i w) (a b c : Nat) (x y : Val) (ha8 : a < 8) (hb8 : b < 8) (hc8 : c < 8) (hia : i.a = a) (hib : i.b = b) (hic : i.c = c) (hop : i.op = 7) (hx : m.regs[b]? = some x) (hy : m.regs[c]? = some y) (hxi : x.is = false) (hyi : y.is = false) :
    Calls Tryz.prog 82 #[.pointer (some ⟨gs, 0, none⟩)] w fun ed w' => ed = .returned (.tuple #[]) ∧ StAt T w0 gm gs (setN m a (truthOf (decide (wr x.n < wr y.n)))) i w' := by
  obtain ⟨io, ia, ib, ic⟩ := i; dsimp only at hia hib hic hop
  subst hia hib hic hop
  obtain ⟨h8, va, vs, vo, hI⟩ := h; unfold stR at hI; obtain ⟨mc, hmc⟩ : ∃ mc, (machL m.regs m.code va vs vo).toArray = mc := ⟨_, rfl⟩; rw [hmc] at hI; refine am137 ?_; intro HMC H64; clear hmc; have EG := Lib.hid (show ∀ args w, (callFunc 97 args).run Tryz.prog w = .ok (.enter 97 args) w from enters_of Tryz.func97 (by kernel_rfl) rfl)
  go_enter Tryz.func82, Tryz.ntmps82
  have cF := hI.facts; (try simp only [mm] at cF)
  go_wp2_with (first
    | (refine lv 75 hI Tryz.zeroValue75 fun gx w' hI' hb => ?_; (try clear hb); refine am92 ?_; clear hI hI'; (try clear cF); intro hI cF)
    | (go_at_call 93; refine (c_numbers_ok (StAt.of (i := ⟨7, a, b, c⟩) h8 HMC _ hI) _ 97 rfl b c a x y _ hb8 hc8 ha8 rfl rfl rfl hx hy hxi hyi EG.out (fun w => (c_num_Less x.n y.n w).mono fun _ _ h => ⟨h.1, h.2 ▸ Below.refl _ _⟩)).mono ?_; rintro ed w4 ⟨rfl, hP4⟩)
    | fail)
  go_end0
  exact ⟨rfl, hP4⟩
theorem c_plain_Less_no1 (h : StAt T w0 gm gs m i w) (a b c : Nat) (x y : Val) (ha8 : a < 8) (hb8 : b < 8) (hc8 : c < 8) (hia : i.a = a) (hib : i.b = b) (hic : i.c = c) (hop : i.op = 7) (hx : m.regs[b]? = some x) (hy : m.regs[c]? = some y) (hxi : x.is = true) :
    Calls Tryz.prog 82 #[.pointer (some ⟨gs, 0, none⟩)] w (Thr 10 w) := by
  exact az12
theorem c_plain_Less_no2 (h : StAt T w0 gm gs m i w) (a b c : Nat) (x y : Val) (ha8 : a < 8) (hb8 : b < 8) (hc8 : c < 8) (hia : i.a = a) (hib : i.b = b) (hic : i.c = c) (hop : i.op = 7) (hx : m.regs[b]? = some x) (hy : m.regs[c]? = some y) (hxi : x.is = false) (hyi : y.is = true) :
    Calls Tryz.prog 82 #[.pointer (some ⟨gs, 0, none⟩)] w (Thr 10 w) := by
  obtain ⟨io, ia, ib, ic⟩ := i; dsimp only at hia hib hic hop
  subst hia hib hic hop
  refine am131 ?_; intro HP h8 va vs vo hI; generalize (machL m.regs m.code va vs vo).toArray = mc at hI; have H0 := Lib.hid hI; clear h
  go_enter Tryz.func82, Tryz.ntmps82
  have cF := hI.facts; (try simp only [mm] at cF)
  go_wp2_with (first
    | (refine lv 75 hI Tryz.zeroValue75 fun gx w' hI' hb => ?_; (try clear hb); refine am92 ?_; clear hI hI'; (try clear cF); intro hI cF)
    | (go_at_call 93; have hbl := H0.out.same (ts := [_]) hI (by simp); refine (c_numbers_err2 (HP.out.on hbl) 97 b c x y hb8 hc8 rfl rfl hx hy hxi hyi).mono ?_; rintro ed w1 ⟨rfl, hb1⟩)
    | fail)
  exact ⟨rfl, rfl, Below.trans hbl (Below.mono hb1 hbl.size)⟩
end
end Go.Proofs.YthmpnnfejghhfaaGreatDoor
namespace Go.Proofs.YthmpnnfejghhfaaGreatDoor
open Go.RowKit
set_option maxRecDepth 100000
section
variable {T : Nat → Prop} {w0 w : World} {gm gs : Nat} {m : Mach} {i : Inst}
set_option maxHeartbeats 4000000 in
theorem c_call_ok (h : StAt T w0 gm gs m i w) (a b : Nat) (x y : Val) (ha8 : a < 8) (hb8 : b < 8) (hia : i.a = a) (hib : i.b = b) (hx : m.regs[a]? = some x) (hy : m.regs[b]? = some y) (hxi : x.is = true) (hyi : y.is = true)
    (h1 : ¬ x.key.tag = 0) (h2 : x.key.tag = y.key.tag) (h3 : hasP 4 x.key.perm = true) (h4 : hasP 4 y.key.perm = false) (h5 : m.stack.length < 16) (hpos : wrap64 (m.code.pos + 1) = m.code.pos + 1) :
    Calls Tryz.prog 80 #[.pointer (some ⟨gs, 0, none⟩)] w fun ed w' => ed = .returned (.tuple #[]) ∧ StAt T w0 gm gs (callF m x.key y.key).1 i w' := by
  obtain ⟨io, ia, ib, ic⟩ := i; dsimp only at hia hib
  subst hia hib
  have hP := h; have HP := Lib.hid hP; clear hP; obtain ⟨h8, va, vs, vo, hI⟩ := h; unfold stR at hI; obtain ⟨A, cp, hvs⟩ := (InvT.own0 (enc := encF) (xs := m.stack) (size := 12) hI (i := 3) rfl).form
  subst hvs
  obtain ⟨d, hd⟩ : ∃ d, m.regs[7]? = some d := ⟨_, List.getElem?_eq_getElem (by omega)⟩
  have q : ∀ j, j < 7 → (machL m.regs m.code va (.slice A m.stack.length cp) vo).toArray[7 * 7 + j]? = (encV d)[j]? := fun j hj => regs_at h8 hd j hj; refine am114 ?_; intro q0 q1 q2 q3 q4 q5 q6; simp only [encV, List.getElem?_cons_zero, List.getElem?_cons_succ, Nat.add_zero, Nat.reduceMul, Nat.reduceAdd] at q0 q1 q2 q3 q4 q5 q6; clear q
  have p56 : (machL m.regs m.code va (.slice A m.stack.length cp) vo).toArray[56]? = some (.int .i64 m.code.perm) := by rw [List.getElem?_toArray]; exact machL_56 h8
  have p57 : (machL m.regs m.code va (.slice A m.stack.length cp) vo).toArray[57]? = some (.int .i64 m.code.base) := by rw [List.getElem?_toArray]; exact machL_57 h8
  have p58 : (machL m.regs m.code va (.slice A m.stack.length cp) vo).toArray[58]? = some (.int .i64 m.code.len) := by rw [List.getElem?_toArray]; exact machL_58 h8
  have p59 : (machL m.regs m.code va (.slice A m.stack.length cp) vo).toArray[59]? = some (.int .i64 m.code.pos) := by rw [List.getElem?_toArray]; exact machL_59 h8
  have p60 : (machL m.regs m.code va (.slice A m.stack.length cp) vo).toArray[60]? = some (.int .i64 m.code.tag) := by rw [List.getElem?_toArray]; exact machL_60 h8
  have p62 : (machL m.regs m.code va (.slice A m.stack.length cp) vo).toArray[62]? = some (.slice A m.stack.length cp) := by rw [List.getElem?_toArray]; exact machL_62 h8
  obtain ⟨mc, hmc⟩ : ∃ mc, (machL m.regs m.code va (.slice A m.stack.length cp) vo).toArray = mc := ⟨_, rfl⟩
  have h64 : mc.size = 64 := by rw [← hmc, List.size_toArray]; exact machL_length h8
  rw [hmc] at hI q0 q1 q2 q3 q4 q5 q6 p56 p57 p58 p59 p60 p62
  have HMC := Lib.hid hmc; have H64 := Lib.hid h64; have HD := Lib.hid hd; clear hmc h64 hd; have h3' : (bits .and .i64 x.key.perm 4 == 0) = false := hasP_bits h3
  have h4' : (bits .and .i64 y.key.perm 4 != 0) = false := by rw [bne, hasP_bits h4]; rfl
  have h1' : (y.key.tag == 0) = false := by rw [← h2]; simpa using h1
  have h16 : ((m.stack.length : Int) == 16) = false := by simp; omega
  have hi64 : IntKind.i64.wrap (m.code.pos + 1) = m.code.pos + 1 := by rw [IntWalk.i64_left]; exact hpos
  have HT := Lib.hid h1; clear h1 hpos
  go_enter Tryz.func80, Tryz.ntmps80
  have cF := hI.facts; (try simp only [mm] at cF)
  go_wp2_with fail
  (refine wp_region_K [1] (by kernel_rfl) hI fun w' hI' hHeld => ?_; (try clear hb); refine am92 ?_; clear hI hI'; (try clear cF); intro hI cF)
  refine am112 ?_; (try clear cF); skip
  revert hI; revert hHeld
  apply orders2 (T := _) (w0 := _)
  case hmain =>
    intro hcont hHeld hI; have cF := hI.facts
    refine threeH (i := 6) (j := 14) (k := 15) (by kernel_rfl) rfl rfl rfl (fun K hK => ?_) (fun K hK => ?_) (fun K hK => ?_)
    · (refine am162 ?_; clear hK K hI; (try clear cF); intro w' hHeld hI cF)
      refine threeH (i := 13) (j := 14) (k := 15) (by kernel_rfl) rfl rfl rfl (fun K hK => ?_) (fun K hK => ?_) (fun K hK => ?_)
      · (refine am140 ?_; clear hK K hI; (try clear cF); intro w' hHeld hI cF)
        refine twoH (i := 14) (j := 15) (by kernel_rfl) rfl rfl (fun K hK => ?_) (fun K hK => ?_)
        · exact az32
        · (refine am93 ?_; clear hK K hI; (try clear cF); intro gx w' hHeld hI cF)
          obtain ⟨gb15, rfl⟩ : ∃ y, y = gx := ⟨_, rfl⟩
          refine oneH (i := 14) (by kernel_rfl) rfl (fun K hK => ?_); (refine am93 ?_; clear hK K hI; (try clear cF); intro gx w' hHeld hI cF)
          exact az56
      · (refine am93 ?_; clear hK K hI; (try clear cF); intro gx w' hHeld hI cF)
        obtain ⟨gb14, rfl⟩ : ∃ y, y = gx := ⟨_, rfl⟩
        exact az21
      · (refine am93 ?_; clear hK K hI; (try clear cF); intro gx w' hHeld hI cF)
        obtain ⟨gb15, rfl⟩ : ∃ y, y = gx := ⟨_, rfl⟩
        exact az15
    · (refine am93 ?_; clear hK K hI; (try clear cF); intro gx w' hHeld hI cF)
      obtain ⟨gb14, rfl⟩ : ∃ y, y = gx := ⟨_, rfl⟩
      refine twoH (i := 6) (j := 15) (by kernel_rfl) rfl rfl (fun K hK => ?_) (fun K hK => ?_)
      · (refine am162 ?_; clear hK K hI; (try clear cF); intro w' hHeld hI cF)
        exact az21
      · (refine am93 ?_; clear hK K hI; (try clear cF); intro gx w' hHeld hI cF)
        obtain ⟨gb15, rfl⟩ : ∃ y, y = gx := ⟨_, rfl⟩
        refine oneH (i := 6) (by kernel_rfl) rfl (fun K hK => ?_); (refine am162 ?_; clear hK K hI; (try clear cF); intro w' hHeld hI cF); refine oneH (i := 13) (by kernel_rfl) rfl (fun K hK => ?_); (refine am140 ?_; clear hK K hI; (try clear cF); intro w' hHeld hI cF)
        exact hcont gb14 gb15 w' hI
    · (refine am93 ?_; clear hK K hI; (try clear cF); intro gx w' hHeld hI cF)
      obtain ⟨gb15, rfl⟩ : ∃ y, y = gx := ⟨_, rfl⟩
      refine twoH (i := 6) (j := 14) (by kernel_rfl) rfl rfl (fun K hK => ?_) (fun K hK => ?_)
      · (refine am162 ?_; clear hK K hI; (try clear cF); intro w' hHeld hI cF)
        exact az15
      · (refine am93 ?_; clear hK K hI; (try clear cF); intro gx w' hHeld hI cF)
        obtain ⟨gb14, rfl⟩ : ∃ y, y = gx := ⟨_, rfl⟩
        refine oneH (i := 6) (by kernel_rfl) rfl (fun K hK => ?_); (refine am162 ?_; clear hK K hI; (try clear cF); intro w' hHeld hI cF); refine oneH (i := 13) (by kernel_rfl) rfl (fun K hK => ?_); (refine am140 ?_; clear hK K hI; (try clear cF); intro w' hHeld hI cF); refine am151 ?_; clear hI; intro hI
        exact hcont gb14 gb15 w' hI
  have hI := trivial; have cF := trivial; intro ga0 ga1 w' hI'
  (try clear hb); refine am92 ?_; clear hI hI'; (try clear cF); intro hI cF
  refine oneH (i := 16) (by kernel_rfl) rfl (fun K hK => ?_)
  (refine am167 ?_; intro w' hI' hHeld; clear hK K; (try clear hb); refine am103 ?_; clear hI hI'; (try clear cF); intro hI cF)
  refine oneH (i := 17) (by kernel_rfl) rfl (fun K hK => ?_)
  (refine stepI rfl (wpI_storeW _ _ _ rfl hI rfl 6 rfl rfl rfl (by kernel_rfl) (by simp [Value.oneCell']) fun w' hI' => hK.out _ _ (hI'.held (by simp)) (fun hHeld => ?_)); clear hK K; (try clear hb); refine am103 ?_; clear hI hI'; (try clear cF); intro hI cF)
  refine wpAnyH_done (by kernel_rfl) ?_ _; clear hHeld
  go_wp2_with fail
  (refine wp_region_K [0, 1] (by kernel_rfl) hI fun w' hI' hHeld => ?_; (try clear hb); refine am92 ?_; clear hI hI'; (try clear cF); intro hI cF)
  refine am161 ?_; (refine tk 14 ?_; (try simp only [np, Act.put])); (refine tk 15 ?_; (try simp only [np, Act.put])); refine oneH (i := 16) (by kernel_rfl) rfl (fun K hK => ?_); (refine stepI rfl (wpI_alloc 73 rfl hI Tryz.zeroValue73 (cs := #[.int .i64 Key.zero.perm, .int .i64 Key.zero.base, .int .i64 Key.zero.len, .int .i64 Key.zero.pos, .int .i64 Key.zero.tag, .bool Val.zero.is, .int .i64 Val.zero.n, .int .i64 Val.zero.key.perm, .int .i64 Val.zero.key.base, .int .i64 Val.zero.key.len, .int .i64 Val.zero.key.pos, .int .i64 Val.zero.key.tag]) (by first | rfl | kernel_rfl) fun gx w' hI' hb => hK.out _ _ (hI'.held (by simp)) (fun hHeld => ?_)); clear hK K; (try clear hb); refine am103 ?_; clear hI hI'; (try clear cF); intro hI cF); refine oneH (i := 17) (by kernel_rfl) rfl (fun K hK => ?_)
  (refine am193 ?_; intro w' hI' hHeld; clear hK K; (try clear hb); refine am103 ?_; clear hI hI'; (try clear cF); intro hI cF)
  refine wpAnyH_done (by kernel_rfl) ?_ _; clear hHeld
  go_wp2_with (first | (refine listI rfl fun K hK => wpI_store1 _ _ _ rfl hI rfl 7 rfl rfl rfl (by simp) (by kernel_rfl) fun w' hI' => hK _ _ ?_; clear hK K; (try clear hb); refine am92 ?_; clear hI hI'; (try clear cF); intro hI cF) | fail)
  obtain ⟨fr, hfr⟩ : ∃ fr : Frame, (⟨{ m.code with pos := m.code.pos + 1 }, d⟩ : Frame) = fr := ⟨_, rfl⟩
  have HFR := Lib.hid hfr; clear hfr
  (refine wp_region_KG 16 [0, 1, 7] (by kernel_rfl) hI fun w' hI' hHeld => ?_; (try clear hb); refine am92 ?_; clear hI hI'; (try clear cF); intro hI cF)
  refine am102 ?_; refine oneG (i := 12) (by kernel_rfl) rfl (fun K hK => ?_); (refine am169 ?_; clear hK K hI; intro gl w' hHeld; (try clear cF); intro hI cF); refine oneG (i := 13) (by kernel_rfl) rfl (fun K hK => ?_)
  (refine stepI rfl (wpI_app (t := 28) _ _ rfl el_F hI 3 rfl rfl rfl (hI.lies1 (i := 8) (enc := encF) (size := 12) rfl fr (fun j hj => by rw [← HFR.out]; simp [encF, Value.cells])) rfl (by unfold maxLen; simp only [List.length_cons, List.length_nil]; omega) (by simp only [List.length_cons, List.length_nil]; omega) fun v' w' hI' => hK.out _ _ (hI'.held (by simp)) (fun hHeld => ?_)); clear hK K; (try clear hb); refine am103 ?_; clear hI hI'; (try clear cF); intro hI cF)
  obtain ⟨A2, cp2, hv2⟩ := (InvT.own0 (enc := encF) (xs := m.stack ++ [fr]) (size := 12) hI (i := 3) rfl).form
  subst hv2
  (refine tg 14 ?_; (try simp only [np, Act.put])); (refine tg 15 ?_; (try simp only [np, Act.put])); refine oneGs (i := 16) (by kernel_rfl) rfl (by kernel_rfl) (fun K hK => ?_)
  (refine am141 ?_; intro w' hI'; clear hK K; (try clear hb); refine am103 ?_; clear hI hI'; (try clear cF); intro hI cF)
  refine doneG (by kernel_rfl) ?_ _
  (try clear hHeld)
  go_wp2_with (first | (refine listI rfl fun K hK => wpI_store1 _ _ _ rfl hI rfl 5 rfl rfl rfl (by simp) (by kernel_rfl) fun w' hI' => hK _ _ ?_; clear hK K; (try clear hb); refine am92 ?_; clear hI hI'; (try clear cF); intro hI cF) | (refine listI rfl fun K hK => wpI_store1 _ _ _ rfl hI rfl 6 rfl rfl rfl (by simp) (by kernel_rfl) fun w' hI' => hK _ _ ?_; clear hK K; (try clear hb); refine am92 ?_; clear hI hI'; (try clear cF); intro hI cF) | fail)
  (refine wp_region_K [1, 5, 6] (by kernel_rfl) hI fun w' hI' hHeld => ?_; (try clear hb); refine am92 ?_; clear hI hI'; (try clear cF); intro hI cF)
  refine am95 ?_; (refine tk 14 ?_; (try simp only [np, Act.put])); (refine tk 15 ?_; (try simp only [np, Act.put])); refine oneH (i := 13) (by kernel_rfl) rfl (fun K hK => ?_)
  (refine am143 ?_; intro w' hI' hHeld; clear hK K; (try clear hb); refine am103 ?_; clear hI hI'; (try clear cF); intro hI cF)
  (refine tk 16 ?_; (try simp only [np, Act.put])); refine oneH (i := 17) (by kernel_rfl) rfl (fun K hK => ?_)
  (refine am136 ?_; intro w' hI' hHeld; clear hK K; (try clear hb); refine am103 ?_; clear hI hI'; (try clear cF); intro hI cF)
  refine wpAnyH_done (by kernel_rfl) ?_ _; clear hHeld
  go_wp2_with fail
  go_end0
  have hbk : (callF m x.key y.key).1 = { m with regs := m.regs.set 7 ⟨true, 0, { y.key with tag := 0 }⟩, code := { x.key with tag := 0 }, stack := m.stack ++ [fr] } := by
    exact az53
  rw [hbk]
  have hbox : setMany (setMany (mc.setIfInBounds 62 (.slice A2 (m.stack ++ [fr]).length cp2)).toList 56 [.int .i64 x.key.perm, .int .i64 x.key.base, .int .i64 x.key.len, .int .i64 x.key.pos, .int .i64 0]) 49 [.bool true, .int .i64 0, .int .i64 y.key.perm, .int .i64 y.key.base, .int .i64 y.key.len, .int .i64 y.key.pos, .int .i64 0] = machL (m.regs.set 7 ⟨true, 0, { y.key with tag := 0 }⟩) { x.key with tag := 0 } va (.slice A2 (m.stack ++ [fr]).length cp2) vo := by
    have e1 := machL_putCode (k' := { x.key with tag := 0 }) (k := m.code) (a := va) (b := .slice A2 (m.stack ++ [fr]).length cp2) (c := vo) h8; have e2 := machL_putReg (k := { x.key with tag := 0 }) (a := va) (b := .slice A2 (m.stack ++ [fr]).length cp2) (c := vo) h8 (i := 7) (by decide) ⟨true, 0, { y.key with tag := 0 }⟩
    rw [← HMC.out, List.setIfInBounds_toArray, machL_stack h8]
    refine Eq.trans ?_ e2
    exact congrArg (fun l => setMany l 49 (encV ⟨true, 0, { y.key with tag := 0 }⟩)) e1
  have hI3 := hI.first [_, _, _, _, _] [_, _, _, _] rfl
  rw [hbox] at hI3
  exact ⟨rfl, by simp [h8], va, .slice A2 (m.stack ++ [fr]).length cp2, vo, hI3⟩
end
end Go.Proofs.YthmpnnfejghhfaaGreatDoor
