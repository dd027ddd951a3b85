/- What the parts say: The stepper's Load and Store. Conditions: none. -/
import Derived.Test.YthmpnnfejghhfaaGreatDoorP32
import Derived.Test.YthmpnnfejghhfaaGreatDoorP15
import Derived.Test.YthmpnnfejghhfaaGreatDoorP36
set_option linter.unusedVariables false
set_option linter.unusedSimpArgs false
namespace Go.Proofs.YthmpnnfejghhfaaGreatDoor
theorem az14 {P : Prop} (h : P := by
  refine twoH (i := 13) (j := 14) (by kernel_rfl) rfl rfl (fun K hK => ?_) (fun K hK => ?_)
  · (refine am139 ?_; clear hK K hI; (try clear cF); intro w' hHeld hI cF); refine oneH (i := 14) (by kernel_rfl) rfl (fun K hK => ?_); (refine am93 ?_; clear hK K hI; (try clear cF); intro gx w' hHeld hI cF)
    exact az57
  · (refine am93 ?_; clear hK K hI; (try clear cF); intro gx w' hHeld hI cF)
    obtain ⟨gb14, rfl⟩ : ∃ y, y = gx := ⟨_, rfl⟩
    refine oneH (i := 13) (by kernel_rfl) rfl (fun K hK => ?_); (refine am139 ?_; clear hK K hI; (try clear cF); intro w' hHeld hI cF); refine am150 ?_; clear hI; intro hI
    exact hcont gb14 gb15 w' hI) : P := h
theorem az20 {P : Prop} (h : P := by
  refine twoH (i := 13) (j := 15) (by kernel_rfl) rfl rfl (fun K hK => ?_) (fun K hK => ?_)
  · (refine am139 ?_; clear hK K hI; (try clear cF); intro w' hHeld hI cF); refine oneH (i := 15) (by kernel_rfl) rfl (fun K hK => ?_); (refine am93 ?_; clear hK K hI; (try clear cF); intro gx w' hHeld hI cF)
    exact az84
  · (refine am93 ?_; clear hK K hI; (try clear cF); intro gx w' hHeld hI cF)
    obtain ⟨gb15, rfl⟩ : ∃ y, y = gx := ⟨_, rfl⟩
    refine oneH (i := 13) (by kernel_rfl) rfl (fun K hK => ?_); (refine am139 ?_; clear hK K hI; (try clear cF); intro w' hHeld hI cF)
    exact hcont gb14 gb15 w' hI) : P := h
theorem az25 {P : Prop} (h : P := by ((go_simp; have hbl := H0.out.same (ts := _) hI (by simp); refine (c_key_err (HP.out.on hbl) b y hy hb8 hyi).mono ?_; rintro ed w1 ⟨rfl, hb1⟩; exact ⟨rfl, rfl, Below.trans hbl (Below.mono hb1 hbl.size)⟩))) : P := h
theorem az36 {P : Prop} (h : P := by ((go_simp; have hbl := H0.out.same (ts := _) hI (by simp); refine (c_key_err (HP.out.on hbl) a x hx ha8 hxi).mono ?_; rintro ed w1 ⟨rfl, hb1⟩; exact ⟨rfl, rfl, Below.trans hbl (Below.mono hb1 hbl.size)⟩))) : P := h
theorem az38 {P : Prop} (h : P := by
  refine twoH (i := 13) (j := 15) (by kernel_rfl) rfl rfl (fun K hK => ?_) (fun K hK => ?_)
  · exact az25
  · (refine am93 ?_; clear hK K hI; (try clear cF); intro gx w' hHeld hI cF)
    obtain ⟨gb15, rfl⟩ : ∃ y, y = gx := ⟨_, rfl⟩
    refine oneH (i := 13) (by kernel_rfl) rfl (fun K hK => ?_)
    exact az25) : P := h
theorem az39 {P : Prop} (h : P := by
  refine twoH (i := 13) (j := 14) (by kernel_rfl) rfl rfl (fun K hK => ?_) (fun K hK => ?_)
  · exact az25
  · (refine am93 ?_; clear hK K hI; (try clear cF); intro gx w' hHeld hI cF)
    obtain ⟨gb14, rfl⟩ : ∃ y, y = gx := ⟨_, rfl⟩
    refine oneH (i := 13) (by kernel_rfl) rfl (fun K hK => ?_)
    exact az25) : P := h
theorem az46 {P : Prop} (h : P := by
  refine oneH (i := 6) (by kernel_rfl) rfl (fun K hK => ?_); (refine am119 ?_; clear hK K hI; (try clear cF); intro w' hHeld hI cF); refine oneH (i := 13) (by kernel_rfl) rfl (fun K hK => ?_)
  exact az25) : P := h
theorem az57 {P : Prop} (h : P := by
  obtain ⟨gb14, rfl⟩ : ∃ y, y = gx := ⟨_, rfl⟩
  refine am150 ?_; clear hI; intro hI
  exact hcont gb14 gb15 w' hI) : P := h
theorem az86 {P : Prop} (h : P := by
  go_wp2_with (first | (go_at_call 76; refine (c_must_err 11 (by decide) _).mono ?_; rintro ed w' ⟨rfl, rfl⟩) | fail)
  exact ⟨rfl, rfl, HBL.out⟩) : P := h
theorem az87 {P : Prop} (h : P := by
  go_wp2_with (first | (go_at_call 76; refine (c_must_err 12 (by decide) _).mono ?_; rintro ed w' ⟨rfl, rfl⟩) | fail)
  exact ⟨rfl, rfl, HBL.out⟩) : P := h
theorem am115 {P Q : Prop} (k : Q) (h : Hq Q → P := by (intro k_; (refine tk 15 ?_; (try simp only [np, Act.put])); (refine tk 16 ?_; (try simp only [np, Act.put])); (refine tk 17 ?_; (try simp only [np, Act.put])); (refine tk 18 ?_; (try simp only [np, Act.put])); (refine tk 19 ?_; (try simp only [np, Act.put])); exact k_.out)) : P := h ⟨k⟩
theorem am118 {P Q : Prop} (k : Q) (h : Hq Q → P := by (intro k_; refine am104 ?_; (refine tk 4 ?_; (try simp only [np, Act.put])); (refine tk 5 ?_; (try simp only [np, Act.put])); (refine tk 6 ?_; (try simp only [np, Act.put])); (refine tk 7 ?_; (try simp only [np, Act.put])); (refine tk 8 ?_; (try simp only [np, Act.put])); (refine tk 9 ?_; (try simp only [np, Act.put])); exact k_.out)) : P := h ⟨k⟩
theorem am119 {P Q : Prop} (k : Q) (h : Hq Q → P := by (intro k_; go_simp; refine (c_key_ok (HP.out.on (H0.out.same (ts := _) hI (by simp))) a x hx ha8 hxi).mono ?_; refine am97 ?_; exact k_.out)) : P := h ⟨k⟩
theorem am139 {P Q : Prop} (k : Q) (h : Hq Q → P := by (intro k_; go_simp; refine (c_key_ok (HP.out.on (H0.out.same (ts := _) hI (by simp))) b y hy hb8 hyi).mono ?_; refine am97 ?_; exact k_.out)) : P := h ⟨k⟩
theorem am150 {P Q : Prop} (k : Q) (h : Hq Q → P := by (intro k_; replace hI := InvT.swapAt 2 hI rfl rfl; (try simp only [List.cons_append, List.nil_append, List.set_cons_zero, List.set_cons_succ, List.setIfInBounds_toArray, Act.put, Act.eval, Array.getD_eq_getD_getElem?, List.getElem?_toArray, List.getElem?_cons_zero, List.getElem?_cons_succ, Option.getD_some] at hI); revert hI; exact k_.out)) : P := h ⟨k⟩
open Go.RowKit
set_option maxRecDepth 100000
section
variable {T : Nat → Prop} {w0 w : World} {gm gs : Nat} {m : Mach} {i : Inst}
theorem StAt.memA (h : StAt T w0 gm gs m i w) : ∃ A cp vs vo, m.regs.length = 8 ∧ InvT T w0 (stR gm gs (.slice A m.mem.length cp) vs vo m i) w ∧ Lies encV 7 w w.heap.size A m.mem ∧
    (machL m.regs m.code (.slice A m.mem.length cp) vs vo).toArray[61]? = some (.slice A m.mem.length cp) := by
  obtain ⟨h8, va, vs, vo, hI⟩ := h; have hO := InvT.own0 (enc := encV) (xs := m.mem) (size := 7) hI (i := 2) rfl
  obtain ⟨A, cp, rfl⟩ := hO.form
  exact ⟨A, cp, vs, vo, h8, hI, hO.liesB (fun _ => rfl) rfl, by rw [List.getElem?_toArray]; exact machL_61 h8⟩
set_option maxHeartbeats 4000000 in
theorem c_byKey_load (h : StAt T w0 gm gs m i w) (a b : Nat) (y : Val) (ha8 : a < 8) (hb8 : b < 8) (hia : i.a = a) (hib : i.b = b) (hop : i.op = 10) (hy : m.regs[b]? = some y) (hyi : y.is = true) (hyw : y.key.Wf) (hn : m.mem.length ≤ maxLen) (he : (getF m.mem y.key i.c).2 = 0) :
    Calls Tryz.prog 102 #[.pointer (some ⟨gs, 0, none⟩)] w fun ed w' => ed = .returned (.tuple #[]) ∧ StAt T w0 gm gs (setR m a (getF m.mem y.key i.c).1) i w' := by
  obtain ⟨io, ia, ib, ic⟩ := i; dsimp only at hia hib hop he
  subst hia hib hop
  obtain ⟨A, cp, vs, vo, h8, hI, hL, p61⟩ := h.memA; unfold stR at hI; have h64 : (machL m.regs m.code (.slice A m.mem.length cp) vs vo).length = 64 := machL_length h8; have hc := c_mem_Get A cp y.key hyw ic m.mem hn
  generalize getF m.mem y.key ic = r at *
  obtain ⟨gv, ge⟩ := r; dsimp only at hc he
  subst he
  obtain ⟨mc, hmc⟩ : ∃ mc, (machL m.regs m.code (.slice A m.mem.length cp) vs vo).toArray = mc := ⟨_, rfl⟩
  have h64' : mc.size = 64 := by rw [← hmc, List.size_toArray]; exact h64
  have hs : setMany mc.toList (a * 7) [.bool gv.is, .int .i64 gv.n, .int .i64 gv.key.perm, .int .i64 gv.key.base, .int .i64 gv.key.len, .int .i64 gv.key.pos, .int .i64 gv.key.tag] = machL (m.regs.set a gv) m.code (.slice A m.mem.length cp) vs vo := by rw [← hmc]; exact setReg_flat h8 ha8 gv
  rw [hmc] at hI p61
  have HMC := Lib.hid hmc; have HS := Lib.hid hs; have HC := Lib.hid hc; have H64 := Lib.hid h64'; clear hmc hs hc h64 h64' h hL; have haz : (a : Int) < 8 := (by omega)
  go_enter Tryz.func102, Tryz.ntmps102
  have cF := hI.facts; (try simp only [mm] at cF)
  go_wp2_with (first
    | (go_at_call 91; refine (c_key_ok (StAt.of (i := ⟨10, a, b, ic⟩) h8 HMC _ hI) b y hy hb8 hyi).mono ?_; rintro ed w1 ⟨rfl, hb1⟩; have hI' := hI.on hb1; (try clear hb); refine am92 ?_; clear hI hI'; (try clear cF); intro hI cF)
    | (refine lv 23 hI Tryz.zeroValue23 fun gx w' hI' hb => ?_; (try clear hb); refine am92 ?_; clear hI hI'; (try clear cF); intro hI cF) | (refine lv 75 hI Tryz.zeroValue75 fun gx w' hI' hb => ?_; (try clear hb); refine am92 ?_; clear hI hI'; (try clear cF); intro hI cF)
    | fail)
  (refine wp_region_K [0, 1, 5, 6] (by kernel_rfl) hI fun w' hI' hHeld => ?_; (try clear hb); refine am92 ?_; clear hI hI'; (try clear cF); intro hI cF)
  refine am118 ?_; (try clear cF); skip
  revert hI; revert hHeld
  apply orders1 (T := _) (w0 := _)
  case hmain =>
    intro hcont hHeld hI; have cF := hI.facts
    refine twoH (i := 10) (j := 14) (by kernel_rfl) rfl rfl (fun K hK => ?_) (fun K hK => ?_)
    · (go_simp; refine (HC.out _ ((InvT.own0 (enc := encV) (xs := m.mem) (size := 7) hI (i := 2) rfl).liesB (fun _ => rfl) rfl)).mono ?_; refine am97 ?_; clear hK K hI; (try clear cF); intro w' hHeld hI cF); (refine tk 11 ?_; (try simp only [np, Act.put])); (refine tk 12 ?_; (try simp only [np, Act.put])); refine am146 ?_; intro K hK; (refine am96 ?_; clear hK K hI; (try clear cF); intro gx w' hHeld hI cF)
      obtain ⟨gb14, rfl⟩ : ∃ y, y = gx := ⟨_, rfl⟩
      exact hcont gb14 w' hI
    · (refine am96 ?_; clear hK K hI; (try clear cF); intro gx w' hHeld hI cF)
      obtain ⟨gb14, rfl⟩ : ∃ y, y = gx := ⟨_, rfl⟩
      refine oneH (i := 10) (by kernel_rfl) rfl (fun K hK => ?_); (go_simp; refine (HC.out _ ((InvT.own0 (enc := encV) (xs := m.mem) (size := 7) hI (i := 2) rfl).liesB (fun _ => rfl) rfl)).mono ?_; refine am97 ?_; clear hK K hI; (try clear cF); intro w' hHeld hI cF); refine am148 ?_
      exact hcont gb14 w' hI
  have hI := trivial; have cF := trivial; intro ga0 w' hI'
  (try clear hb); refine am92 ?_; clear hI hI'; (try clear cF); intro hI cF
  refine oneH (i := 15) (by kernel_rfl) rfl (fun K hK => ?_)
  (refine am193 ?_; intro w' hI' hHeld; clear hK K; (try clear hb); refine am103 ?_; clear hI hI'; (try clear cF); intro hI cF)
  (refine tk 16 ?_; (try simp only [np, Act.put])); refine wpAnyH_done (by kernel_rfl) ?_ _; clear hHeld
  go_wp2_with (first | (go_at_call 76; refine (c_must_ok _).mono ?_; rintro ed w' ⟨rfl, rfl⟩) | fail)
  (try replace cF := cF.2)
  (refine wp_region_K [1, 6, 7] (by kernel_rfl) hI fun w' hI' hHeld => ?_; (try clear hb); refine am92 ?_; clear hI hI'; (try clear cF); intro hI cF)
  (try replace cF := cF.2)
  refine am118 ?_; refine oneH (i := 10) (by kernel_rfl) rfl (fun K hK => ?_)
  (refine stepI rfl (wpI_storeS _ _ _ rfl hI rfl 0 rfl rfl HS.out (by simp [H64.out]; omega) (by kernel_rfl) (by simp [Value.oneCell']) fun w' hI' => hK.out _ _ (hI'.held (by simp)) (fun hHeld => ?_)); clear hK K; (try clear hb); refine am103 ?_; clear hI hI'; (try clear cF); intro hI cF)
  refine wpAnyH_done (by kernel_rfl) ?_ _; clear hHeld
  go_wp2_with fail
  go_end0
  exact ⟨rfl, by simp [setR, h8], _, vs, vo, hI.first [_, _, _, _, _] [_, _, _] rfl⟩
set_option maxHeartbeats 4000000 in
theorem c_byKey_load_no (h : StAt T w0 gm gs m i w) (a b : Nat) (y : Val) (ha8 : a < 8) (hb8 : b < 8) (hia : i.a = a) (hib : i.b = b) (hop : i.op = 10) (hy : m.regs[b]? = some y) (hyi : y.is = true) (hyw : y.key.Wf) (hn : m.mem.length ≤ maxLen) (he : ¬ (getF m.mem y.key i.c).2 = 0) :
    Calls Tryz.prog 102 #[.pointer (some ⟨gs, 0, none⟩)] w (Thr (getF m.mem y.key i.c).2 w) := by
  obtain ⟨io, ia, ib, ic⟩ := i; dsimp only at hia hib hop he
  subst hia hib hop
  have HP := Lib.hid h; obtain ⟨A, cp, vs, vo, h8, hI0, hL, p61⟩ := h.memA; have hI := InvT.enter (rc := [_, _]) (ts := [_, _, _]) hI0; clear hI0; have hc := c_mem_Get A cp y.key hyw ic m.mem hn; dsimp only
  generalize getF m.mem y.key ic = r at *
  obtain ⟨gv, ge⟩ := r; dsimp only at hc he
  generalize (machL m.regs m.code (.slice A m.mem.length cp) vs vo).toArray = mc at *
  have H0 := Lib.hid hI; have HC := Lib.hid hc; have HL := Lib.hid hL; clear hc h hL
  go_enter Tryz.func102, Tryz.ntmps102
  have cF := hI.facts; (try simp only [mm] at cF)
  go_wp2_with (first
    | (go_at_call 91; refine am144 ?_; intro w1 hb1 hI'; (try clear hb); refine am92 ?_; clear hI hI'; (try clear cF); intro hI cF)
    | (refine lv 23 hI Tryz.zeroValue23 fun gx w' hI' hb => ?_; (try clear hb); refine am92 ?_; clear hI hI'; (try clear cF); intro hI cF) | (refine lv 75 hI Tryz.zeroValue75 fun gx w' hI' hb => ?_; (try clear hb); refine am92 ?_; clear hI hI'; (try clear cF); intro hI cF)
    | fail)
  (refine wp_region_K [0, 1, 2, 3] (by kernel_rfl) hI fun w' hI' hHeld => ?_; (try clear hb); refine am92 ?_; clear hI hI'; (try clear cF); intro hI cF)
  refine am118 ?_; (try clear cF); skip
  revert hI; revert hHeld
  apply orders1 (T := _) (w0 := _)
  case hmain =>
    intro hcont hHeld hI; have cF := hI.facts
    refine twoH (i := 10) (j := 14) (by kernel_rfl) rfl rfl (fun K hK => ?_) (fun K hK => ?_)
    · (go_simp; refine (HC.out _ ((HL.out.below (H0.out.same (ts := _) hI (by simp))).more (H0.out.same (ts := _) hI (by simp)).size)).mono ?_; refine am97 ?_; clear hK K hI; (try clear cF); intro w' hHeld hI cF); (refine tk 11 ?_; (try simp only [np, Act.put])); (refine tk 12 ?_; (try simp only [np, Act.put])); refine am146 ?_; intro K hK; (refine am96 ?_; clear hK K hI; (try clear cF); intro gx w' hHeld hI cF)
      obtain ⟨gb14, rfl⟩ : ∃ y, y = gx := ⟨_, rfl⟩
      exact hcont gb14 w' hI
    · (refine am96 ?_; clear hK K hI; (try clear cF); intro gx w' hHeld hI cF)
      obtain ⟨gb14, rfl⟩ : ∃ y, y = gx := ⟨_, rfl⟩
      refine oneH (i := 10) (by kernel_rfl) rfl (fun K hK => ?_); (go_simp; refine (HC.out _ ((HL.out.below (H0.out.same (ts := _) hI (by simp))).more (H0.out.same (ts := _) hI (by simp)).size)).mono ?_; refine am97 ?_; clear hK K hI; (try clear cF); intro w' hHeld hI cF); refine am148 ?_
      exact hcont gb14 w' hI
  have hI := trivial; have cF := trivial; intro ga0 w' hI'
  (try clear hb); refine am92 ?_; clear hI hI'; (try clear cF); intro hI cF
  refine oneH (i := 15) (by kernel_rfl) rfl (fun K hK => ?_)
  (refine stepI rfl (wpI_storeW _ _ _ rfl hI rfl 4 rfl rfl rfl (by kernel_rfl) (by simp [Value.oneCell']) fun w' hI' => hK.out _ _ (hI'.held (by simp)) (fun hHeld => ?_)); clear hK K; (try clear hb); refine am103 ?_; clear hI hI'; (try clear cF); intro hI cF)
  (refine tk 16 ?_; (try simp only [np, Act.put])); refine wpAnyH_done (by kernel_rfl) ?_ _; clear hHeld
  go_wp2_with (first | (go_at_call 76; refine (c_must_err ge he _).mono ?_; rintro ed w' ⟨rfl, rfl⟩) | fail)
  exact ⟨rfl, rfl, H0.out.same (ts := _) hI (by simp)⟩
set_option maxHeartbeats 4000000 in
theorem c_byKey_store (h : StAt T w0 gm gs m i w) (a b : Nat) (x y : Val) (ha8 : a < 8) (hb8 : b < 8) (hia : i.a = a) (hib : i.b = b) (hop : i.op = 11) (hx : m.regs[a]? = some x) (hy : m.regs[b]? = some y) (hyi : y.is = true) (hyw : y.key.Wf) (hn : m.mem.length ≤ maxLen) (he : (putF m.mem y.key i.c x).2 = 0) :
    Calls Tryz.prog 102 #[.pointer (some ⟨gs, 0, none⟩)] w fun ed w' => ed = .returned (.tuple #[]) ∧ StAt T w0 gm gs { m with mem := (putF m.mem y.key i.c x).1 } i w' := by
  obtain ⟨io, ia, ib, ic⟩ := i; dsimp only at hia hib hop he
  subst hia hib hop
  obtain ⟨A, cp, vs, vo, h8, hI, hL, p61⟩ := h.memA; unfold stR at hI; have hc := c_mem_Put A cp y.key hyw ic x m.mem hn 0; have hpl := putF_length (xs := m.mem) (k := y.key) (off := ic) (v := x); dsimp only
  generalize putF m.mem y.key ic x = r at *
  obtain ⟨pv, pe⟩ := r; dsimp only at hc he hpl
  subst he
  obtain ⟨mc, hmc⟩ : ∃ mc, (machL m.regs m.code (.slice A m.mem.length cp) vs vo).toArray = mc := ⟨_, rfl⟩
  have q : ∀ j, j < 7 → mc[a * 7 + j]? = (encV x)[j]? := fun j hj => by rw [← hmc]; exact regs_at h8 hx j hj
  refine am114 ?_; intro q0 q1 q2 q3 q4 q5 q6; simp only [encV, List.getElem?_cons_zero, List.getElem?_cons_succ, Nat.add_zero] at q0 q1 q2 q3 q4 q5 q6
  rw [hmc] at hI p61
  have HMC := Lib.hid hmc; have HC := Lib.hid hc; have HPL := Lib.hid hpl; clear hmc hc h hL q hpl; have haz : (a : Int) < 8 := (by omega)
  go_enter Tryz.func102, Tryz.ntmps102
  have cF := hI.facts; (try simp only [mm] at cF)
  go_wp2_with (first
    | (go_at_call 91; refine (c_key_ok (StAt.of (i := ⟨11, a, b, ic⟩) h8 HMC _ hI) b y hy hb8 hyi).mono ?_; rintro ed w1 ⟨rfl, hb1⟩; have hI' := hI.on hb1; (try clear hb); refine am92 ?_; clear hI hI'; (try clear cF); intro hI cF)
    | (refine lv 23 hI Tryz.zeroValue23 fun gx w' hI' hb => ?_; (try clear hb); refine am92 ?_; clear hI hI'; (try clear cF); intro hI cF) | (refine lv 75 hI Tryz.zeroValue75 fun gx w' hI' hb => ?_; (try clear hb); refine am92 ?_; clear hI hI'; (try clear cF); intro hI cF)
    | fail)
  (refine wp_region_KG 20 [0, 1, 5, 6] (by kernel_rfl) hI fun w' hI' hHeld => ?_; (try clear hb); refine am92 ?_; clear hI hI'; (try clear cF); intro hI cF)
  refine am127 ?_; (refine tg 19 ?_; (try simp only [np, Act.put])); refine oneGs (i := 20) (by kernel_rfl) rfl (by kernel_rfl) (fun K hK => ?_)
  (go_simp; refine (HC.out _ (InvT.own0 (enc := encV) (xs := m.mem) (size := 7) hI (i := 2) rfl)).mono ?_; rintro ed w' ⟨rfl, hO, hg, -⟩; have hI' := hI.app (i := 2) rfl hg hO (.inl rfl); refine hK.out _ _ ?_; clear hK K; (try clear hb); refine am103 ?_; clear hI hI'; (try clear cF); intro hI cF)
  refine oneGs (i := 21) (by kernel_rfl) rfl (by kernel_rfl) (fun K hK => ?_)
  (go_simp; refine (c_must_ok _).mono ?_; rintro ed w' ⟨rfl, rfl⟩; have hI' := hI; refine hK.out _ _ ?_; clear hK K; (try clear hb); refine am103 ?_; clear hI hI'; (try clear cF); intro hI cF)
  refine doneG (by kernel_rfl) ?_ _
  go_wp2_with fail
  go_end0
  refine ⟨rfl, h8, .slice A m.mem.length cp, vs, vo, ?_⟩; have h2 := hI.first [_, _, _, _, _] [_, _] rfl
  rw [← HMC.out] at h2
  exact h2
set_option maxHeartbeats 4000000 in
theorem c_byKey_store_no (h : StAt T w0 gm gs m i w) (a b : Nat) (x y : Val) (ha8 : a < 8) (hb8 : b < 8) (hia : i.a = a) (hib : i.b = b) (hop : i.op = 11) (hx : m.regs[a]? = some x) (hy : m.regs[b]? = some y) (hyi : y.is = true) (hyw : y.key.Wf) (hn : m.mem.length ≤ maxLen) (he : ¬ (putF m.mem y.key i.c x).2 = 0) :
    Calls Tryz.prog 102 #[.pointer (some ⟨gs, 0, none⟩)] w (Thr (putF m.mem y.key i.c x).2 w) := by
  obtain ⟨io, ia, ib, ic⟩ := i; dsimp only at hia hib hop he
  subst hia hib hop
  have HP := Lib.hid h; obtain ⟨A, cp, vs, vo, h8, hI0, hL, p61⟩ := h.memA; have hO := InvT.own0 (enc := encV) (xs := m.mem) (size := 7) hI0 (i := 2) rfl; have hI := InvT.enter (rc := [_, _]) (ts := [_, _, _]) hI0; clear hI0; have hc := c_mem_Put A cp y.key hyw ic x m.mem hn 0; dsimp only
  generalize putF m.mem y.key ic x = r at *
  obtain ⟨pv, pe⟩ := r; dsimp only at hc he
  obtain ⟨mc, hmc⟩ : ∃ mc, (machL m.regs m.code (.slice A m.mem.length cp) vs vo).toArray = mc := ⟨_, rfl⟩
  have q : ∀ j, j < 7 → mc[a * 7 + j]? = (encV x)[j]? := fun j hj => by rw [← hmc]; exact regs_at h8 hx j hj
  refine am114 ?_; intro q0 q1 q2 q3 q4 q5 q6; simp only [encV, List.getElem?_cons_zero, List.getElem?_cons_succ, Nat.add_zero] at q0 q1 q2 q3 q4 q5 q6
  rw [hmc] at hI p61
  have H0 := Lib.hid hI; have HC := Lib.hid hc; have HO := Lib.hid hO; clear hc h hL hO hmc q; have haz : (a : Int) < 8 := (by omega)
  go_enter Tryz.func102, Tryz.ntmps102
  have cF := hI.facts; (try simp only [mm] at cF)
  go_wp2_with (first
    | (go_at_call 91; refine am144 ?_; intro w1 hb1 hI'; (try clear hb); refine am92 ?_; clear hI hI'; (try clear cF); intro hI cF)
    | (refine lv 23 hI Tryz.zeroValue23 fun gx w' hI' hb => ?_; (try clear hb); refine am92 ?_; clear hI hI'; (try clear cF); intro hI cF) | (refine lv 75 hI Tryz.zeroValue75 fun gx w' hI' hb => ?_; (try clear hb); refine am92 ?_; clear hI hI'; (try clear cF); intro hI cF)
    | fail)
  (refine wp_region_K [0, 1, 2, 3] (by kernel_rfl) hI fun w' hI' hHeld => ?_; (try clear hb); refine am92 ?_; clear hI hI'; (try clear cF); intro hI cF)
  refine am161 ?_; (refine tk 14 ?_; (try simp only [np, Act.put])); refine am115 ?_; refine oneH (i := 20) (by kernel_rfl) rfl (fun K hK => ?_); (go_simp; refine (HC.out _ (HO.out.below (H0.out.same (ts := [_, _]) hI (by simp)) (Nat.le_refl _))).mono ?_; rintro ed w' ⟨rfl, -, -, hz⟩; have hb := hz he; have hI' := hI.on hb; refine am149 ?_; clear hK K; intro hHeld; (try clear hb); refine am103 ?_; clear hI hI'; (try clear cF); intro hI cF); refine oneH (i := 21) (by kernel_rfl) rfl (fun K hK => ?_); go_simp; refine (c_must_err pe he _).mono ?_
  rintro ed w' ⟨rfl, rfl⟩
  exact ⟨rfl, rfl, H0.out.same (ts := [_, _]) hI (by simp)⟩
end
end Go.Proofs.YthmpnnfejghhfaaGreatDoor
namespace Go.Proofs.YthmpnnfejghhfaaGreatDoor
open Go.RowKit
set_option maxRecDepth 100000
section
variable {T : Nat → Prop} {w0 w : World} {gm gs : Nat} {m : Mach} {i : Inst}
set_option maxHeartbeats 4000000 in
theorem c_call_noA (h : StAt T w0 gm gs m i w) (a b : Nat) (x : Val) (ha8 : a < 8) (hia : i.a = a) (hib : i.b = b) (hx : m.regs[a]? = some x) (hxi : x.is = false) :
    Calls Tryz.prog 80 #[.pointer (some ⟨gs, 0, none⟩)] w (Thr 10 w) := by
  obtain ⟨io, ia, ib, ic⟩ := i; dsimp only at hia hib
  subst hia hib
  refine am131 ?_; intro HP h8 va vs vo hI
  generalize (machL m.regs m.code va vs vo).toArray = mc at hI
  have H0 := Lib.hid hI; clear h; have h0 := hI.size
  go_enter Tryz.func80, Tryz.ntmps80
  have cF := hI.facts; (try simp only [mm] at cF)
  go_wp2_with fail
  (refine wp_region_K [1] (by kernel_rfl) hI fun w' hI' hHeld => ?_; (try clear hb); refine am92 ?_; clear hI hI'; (try clear cF); intro hI cF)
  refine am112 ?_
  refine threeH (i := 6) (j := 14) (k := 15) (by kernel_rfl) rfl rfl rfl (fun K hK => ?_) (fun K hK => ?_) (fun K hK => ?_)
  · exact az36
  · (refine am93 ?_; clear hK K hI; (try clear cF); intro gx w' hHeld hI cF)
    obtain ⟨gb14, rfl⟩ : ∃ y, y = gx := ⟨_, rfl⟩
    refine twoH (i := 6) (j := 15) (by kernel_rfl) rfl rfl (fun K hK => ?_) (fun K hK => ?_)
    · exact az36
    · (refine am93 ?_; clear hK K hI; (try clear cF); intro gx w' hHeld hI cF)
      obtain ⟨gb15, rfl⟩ : ∃ y, y = gx := ⟨_, rfl⟩
      refine oneH (i := 6) (by kernel_rfl) rfl (fun K hK => ?_)
      exact az36
  · (refine am93 ?_; clear hK K hI; (try clear cF); intro gx w' hHeld hI cF)
    obtain ⟨gb15, rfl⟩ : ∃ y, y = gx := ⟨_, rfl⟩
    refine twoH (i := 6) (j := 14) (by kernel_rfl) rfl rfl (fun K hK => ?_) (fun K hK => ?_)
    · exact az36
    · (refine am93 ?_; clear hK K hI; (try clear cF); intro gx w' hHeld hI cF)
      obtain ⟨gb14, rfl⟩ : ∃ y, y = gx := ⟨_, rfl⟩
      refine oneH (i := 6) (by kernel_rfl) rfl (fun K hK => ?_)
      exact az36
set_option maxHeartbeats 4000000 in
theorem c_call_noB (h : StAt T w0 gm gs m i w) (a b : Nat) (x y : Val) (ha8 : a < 8) (hb8 : b < 8) (hia : i.a = a) (hib : i.b = b) (hx : m.regs[a]? = some x) (hy : m.regs[b]? = some y) (hxi : x.is = true) (hyi : y.is = false) :
    Calls Tryz.prog 80 #[.pointer (some ⟨gs, 0, none⟩)] w (Thr 10 w) := by
  obtain ⟨io, ia, ib, ic⟩ := i; dsimp only at hia hib
  subst hia hib
  refine am131 ?_; intro HP h8 va vs vo hI
  generalize (machL m.regs m.code va vs vo).toArray = mc at hI
  have H0 := Lib.hid hI; clear h; have h0 := hI.size
  go_enter Tryz.func80, Tryz.ntmps80
  have cF := hI.facts; (try simp only [mm] at cF)
  go_wp2_with fail
  (refine wp_region_K [1] (by kernel_rfl) hI fun w' hI' hHeld => ?_; (try clear hb); refine am92 ?_; clear hI hI'; (try clear cF); intro hI cF)
  refine am112 ?_
  refine threeH (i := 6) (j := 14) (k := 15) (by kernel_rfl) rfl rfl rfl (fun K hK => ?_) (fun K hK => ?_) (fun K hK => ?_)
  · (refine am119 ?_; clear hK K hI; (try clear cF); intro w' hHeld hI cF)
    refine threeH (i := 13) (j := 14) (k := 15) (by kernel_rfl) rfl rfl rfl (fun K hK => ?_) (fun K hK => ?_) (fun K hK => ?_)
    · exact az25
    · (refine am93 ?_; clear hK K hI; (try clear cF); intro gx w' hHeld hI cF)
      obtain ⟨gb14, rfl⟩ : ∃ y, y = gx := ⟨_, rfl⟩
      exact az38
    · (refine am93 ?_; clear hK K hI; (try clear cF); intro gx w' hHeld hI cF)
      obtain ⟨gb15, rfl⟩ : ∃ y, y = gx := ⟨_, rfl⟩
      exact az39
  · (refine am93 ?_; clear hK K hI; (try clear cF); intro gx w' hHeld hI cF)
    obtain ⟨gb14, rfl⟩ : ∃ y, y = gx := ⟨_, rfl⟩
    refine twoH (i := 6) (j := 15) (by kernel_rfl) rfl rfl (fun K hK => ?_) (fun K hK => ?_)
    · (refine am119 ?_; clear hK K hI; (try clear cF); intro w' hHeld hI cF)
      exact az38
    · (refine am93 ?_; clear hK K hI; (try clear cF); intro gx w' hHeld hI cF)
      obtain ⟨gb15, rfl⟩ : ∃ y, y = gx := ⟨_, rfl⟩
      exact az46
  · (refine am93 ?_; clear hK K hI; (try clear cF); intro gx w' hHeld hI cF)
    obtain ⟨gb15, rfl⟩ : ∃ y, y = gx := ⟨_, rfl⟩
    refine twoH (i := 6) (j := 14) (by kernel_rfl) rfl rfl (fun K hK => ?_) (fun K hK => ?_)
    · (refine am119 ?_; clear hK K hI; (try clear cF); intro w' hHeld hI cF)
      exact az39
    · (refine am93 ?_; clear hK K hI; (try clear cF); intro gx w' hHeld hI cF)
      obtain ⟨gb14, rfl⟩ : ∃ y, y = gx := ⟨_, rfl⟩
      exact az46
set_option maxHeartbeats 4000000 in
theorem c_call_bad (h : StAt T w0 gm gs m i w) (a b : Nat) (x y : Val) (ha8 : a < 8) (hb8 : b < 8) (hia : i.a = a) (hib : i.b = b) (hx : m.regs[a]? = some x) (hy : m.regs[b]? = some y) (hxi : x.is = true) (hyi : y.is = true) (e : Int)
    (hcase : (x.key.tag = 0 ∧ e = 11) ∨ (¬ x.key.tag = 0 ∧ ¬ x.key.tag = y.key.tag ∧ e = 11) ∨ (¬ y.key.tag = 0 ∧ x.key.tag = y.key.tag ∧ hasP 4 x.key.perm = false ∧ e = 12) ∨ (¬ y.key.tag = 0 ∧ x.key.tag = y.key.tag ∧ hasP 4 x.key.perm = true ∧ hasP 4 y.key.perm = true ∧ e = 12) ∨
      (¬ y.key.tag = 0 ∧ x.key.tag = y.key.tag ∧ hasP 4 x.key.perm = true ∧ hasP 4 y.key.perm = false ∧ m.stack.length = 16 ∧ e = 9)) :
    Calls Tryz.prog 80 #[.pointer (some ⟨gs, 0, none⟩)] w (Thr e w) := by
  obtain ⟨io, ia, ib, ic⟩ := i; dsimp only at hia hib
  subst hia hib
  have HP := Lib.hid h; obtain ⟨h8, va, vs, vo, hI⟩ := id h; obtain ⟨A, cp, hvs⟩ := (InvT.own0 (enc := encF) (xs := m.stack) (size := 12) hI (i := 3) rfl).form
  subst hvs
  have hJ := InvT.enter (rc := [_, _]) (ts := [_, _, _]) hI; clear hI; have hI := hJ; clear hJ
  have p62 : (machL m.regs m.code va (.slice A m.stack.length cp) vo).toArray[62]? = some (.slice A m.stack.length cp) := by rw [List.getElem?_toArray]; exact machL_62 h8
  generalize (machL m.regs m.code va (.slice A m.stack.length cp) vo).toArray = mc at hI p62
  have H0 := Lib.hid hI; have HC := Lib.hid hcase; clear h hcase; have h0 := hI.size
  go_enter Tryz.func80, Tryz.ntmps80
  have cF := hI.facts; (try simp only [mm] at cF)
  go_wp2_with fail
  (refine wp_region_K [1] (by kernel_rfl) hI fun w' hI' hHeld => ?_; (try clear hb); refine am92 ?_; clear hI hI'; (try clear cF); intro hI cF)
  refine am112 ?_; (try clear cF); skip
  revert hI; revert hHeld
  apply orders2 (T := _) (w0 := _)
  case hmain =>
    intro hcont hHeld hI; have cF := hI.facts
    refine threeH (i := 6) (j := 14) (k := 15) (by kernel_rfl) rfl rfl rfl (fun K hK => ?_) (fun K hK => ?_) (fun K hK => ?_)
    · (refine am119 ?_; clear hK K hI; (try clear cF); intro w' hHeld hI cF)
      refine threeH (i := 13) (j := 14) (k := 15) (by kernel_rfl) rfl rfl rfl (fun K hK => ?_) (fun K hK => ?_) (fun K hK => ?_)
      · (refine am139 ?_; clear hK K hI; (try clear cF); intro w' hHeld hI cF)
        refine twoH (i := 14) (j := 15) (by kernel_rfl) rfl rfl (fun K hK => ?_) (fun K hK => ?_)
        · exact az32
        · (refine am93 ?_; clear hK K hI; (try clear cF); intro gx w' hHeld hI cF)
          obtain ⟨gb15, rfl⟩ : ∃ y, y = gx := ⟨_, rfl⟩
          refine oneH (i := 14) (by kernel_rfl) rfl (fun K hK => ?_); (refine am93 ?_; clear hK K hI; (try clear cF); intro gx w' hHeld hI cF)
          exact az57
      · (refine am93 ?_; clear hK K hI; (try clear cF); intro gx w' hHeld hI cF)
        obtain ⟨gb14, rfl⟩ : ∃ y, y = gx := ⟨_, rfl⟩
        exact az20
      · (refine am93 ?_; clear hK K hI; (try clear cF); intro gx w' hHeld hI cF)
        obtain ⟨gb15, rfl⟩ : ∃ y, y = gx := ⟨_, rfl⟩
        exact az14
    · (refine am93 ?_; clear hK K hI; (try clear cF); intro gx w' hHeld hI cF)
      obtain ⟨gb14, rfl⟩ : ∃ y, y = gx := ⟨_, rfl⟩
      refine twoH (i := 6) (j := 15) (by kernel_rfl) rfl rfl (fun K hK => ?_) (fun K hK => ?_)
      · (refine am119 ?_; clear hK K hI; (try clear cF); intro w' hHeld hI cF)
        exact az20
      · (refine am93 ?_; clear hK K hI; (try clear cF); intro gx w' hHeld hI cF)
        obtain ⟨gb15, rfl⟩ : ∃ y, y = gx := ⟨_, rfl⟩
        refine oneH (i := 6) (by kernel_rfl) rfl (fun K hK => ?_); (refine am119 ?_; clear hK K hI; (try clear cF); intro w' hHeld hI cF); refine oneH (i := 13) (by kernel_rfl) rfl (fun K hK => ?_); (refine am139 ?_; clear hK K hI; (try clear cF); intro w' hHeld hI cF)
        exact hcont gb14 gb15 w' hI
    · (refine am93 ?_; clear hK K hI; (try clear cF); intro gx w' hHeld hI cF)
      obtain ⟨gb15, rfl⟩ : ∃ y, y = gx := ⟨_, rfl⟩
      refine twoH (i := 6) (j := 14) (by kernel_rfl) rfl rfl (fun K hK => ?_) (fun K hK => ?_)
      · (refine am119 ?_; clear hK K hI; (try clear cF); intro w' hHeld hI cF)
        exact az14
      · (refine am93 ?_; clear hK K hI; (try clear cF); intro gx w' hHeld hI cF)
        obtain ⟨gb14, rfl⟩ : ∃ y, y = gx := ⟨_, rfl⟩
        refine oneH (i := 6) (by kernel_rfl) rfl (fun K hK => ?_); (refine am119 ?_; clear hK K hI; (try clear cF); intro w' hHeld hI cF); refine oneH (i := 13) (by kernel_rfl) rfl (fun K hK => ?_); (refine am139 ?_; clear hK K hI; (try clear cF); intro w' hHeld hI cF); refine am150 ?_; clear hI; intro hI
        exact hcont gb14 gb15 w' hI
  have hI := trivial; have cF := trivial; intro ga0 ga1 w' hI'
  (try clear hb); refine am92 ?_; clear hI hI'; (try clear cF); intro hI cF
  refine oneH (i := 16) (by kernel_rfl) rfl (fun K hK => ?_)
  (refine stepI rfl (wpI_storeW _ _ _ rfl hI rfl 2 rfl rfl rfl (by kernel_rfl) (by simp [Value.oneCell']) fun w' hI' => hK.out _ _ (hI'.held (by simp)) (fun hHeld => ?_)); clear hK K; (try clear hb); refine am103 ?_; clear hI hI'; (try clear cF); intro hI cF)
  refine oneH (i := 17) (by kernel_rfl) rfl (fun K hK => ?_)
  (refine stepI rfl (wpI_storeW _ _ _ rfl hI rfl 3 rfl rfl rfl (by kernel_rfl) (by simp [Value.oneCell']) fun w' hI' => hK.out _ _ (hI'.held (by simp)) (fun hHeld => ?_)); clear hK K; (try clear hb); refine am103 ?_; clear hI hI'; (try clear cF); intro hI cF)
  refine wpAnyH_done (by kernel_rfl) ?_ _; clear hHeld; have hbl := H0.out.same (ts := _) hI (by simp); have HBL := Lib.hid hbl; clear hbl
  rcases HC.out with ⟨h1, rfl⟩ | ⟨h1, h2, rfl⟩ | ⟨h1, h2, h3, rfl⟩ | ⟨h1, h2, h3, h4, rfl⟩ | ⟨h1, h2, h3, h4, h5, rfl⟩
  · exact az86
  · have h1' : (x.key.tag == 0) = false := (by simpa using h1); have h2' : (x.key.tag != y.key.tag) = true := (by simpa using h2)
    exact az86
  · have h1' : (y.key.tag == 0) = false := (by simpa using h1); have h3' : (bits .and .i64 x.key.perm 4 == 0) = true := hasP_bits h3
    exact az87
  · have h1' : (y.key.tag == 0) = false := (by simpa using h1); have h3' : (bits .and .i64 x.key.perm 4 == 0) = false := hasP_bits h3
    have h4' : (bits .and .i64 y.key.perm 4 != 0) = true := by rw [bne, hasP_bits h4]; rfl
    exact az87
  · have h1' : (y.key.tag == 0) = false := (by simpa using h1); have h3' : (bits .and .i64 x.key.perm 4 == 0) = false := hasP_bits h3
    have h4' : (bits .and .i64 y.key.perm 4 != 0) = false := by rw [bne, hasP_bits h4]; rfl
    rw [h5] at p62
    go_wp2_with (first | (go_at_call 76; refine (c_must_err 9 (by decide) _).mono ?_; rintro ed w' ⟨rfl, rfl⟩) | fail)
    exact ⟨rfl, rfl, HBL.out⟩
theorem c_call (h : StAt T w0 gm gs m i w) (ha : 0 ≤ i.a ∧ i.a ≤ 7) (hB : 0 ≤ i.b ∧ i.b ≤ 7) (hd : m.stack.length ≤ 16) (hpos : wrap64 (m.code.pos + 1) = m.code.pos + 1) {p : Mach × Int}
    (hp : p = if (regV m i.a).is = false ∨ (regV m i.b).is = false then (m, 10) else callF m (regV m i.a).key (regV m i.b).key) :
    Calls Tryz.prog 80 #[.pointer (some ⟨gs, 0, none⟩)] w (Stp T w0 gm gs i w p) := by
  obtain ⟨a, ha', ha8, hva⟩ := reg_nat h.1 ha; obtain ⟨b, hb', hb8, hvb⟩ := reg_nat h.1 hB
  generalize regV m i.a = x at *
  generalize regV m i.b = y at *
  cases hxi : x.is
  · exact Stp.bad (by rw [hp, if_pos (.inl hxi)]) (by decide) (c_call_noA h a b x ha8 ha' hb' hva hxi)
  cases hyi : y.is
  · exact Stp.bad (by rw [hp, if_pos (.inr hyi)]) (by decide) (c_call_noB h a b x y ha8 hb8 ha' hb' hva hvb hxi hyi)
  rw [if_neg (by simp [hxi, hyi])] at hp
  have hbad := fun e hc => c_call_bad h a b x y ha8 hb8 ha' hb' hva hvb hxi hyi e hc; unfold callF at hp
  by_cases t0 : x.key.tag = 0
  · exact Stp.bad (by rw [hp, if_pos (.inl t0)]) (by decide) (hbad 11 (.inl ⟨t0, rfl⟩))
  by_cases t1 : x.key.tag = y.key.tag
  · rw [if_neg (by rw [not_or]; exact ⟨t0, fun hn => hn t1⟩)] at hp
    have t2 : ¬ y.key.tag = 0 := (by omega)
    cases p3 : hasP 4 x.key.perm
    · exact Stp.bad (by rw [hp, if_pos (.inl p3)]) (by decide) (hbad 12 (.inr (.inr (.inl ⟨t2, t1, p3, rfl⟩))))
    cases p4 : hasP 4 y.key.perm
    · rw [if_neg (by simp [p3, p4])] at hp
      by_cases hl : 16 ≤ m.stack.length
      · rw [if_pos hl] at hp
        exact Stp.bad hp (by decide) (hbad 9 (.inr (.inr (.inr (.inr ⟨t2, t1, p3, p4, by omega, rfl⟩)))))
      · have hok := c_call_ok h a b x y ha8 hb8 ha' hb' hva hvb hxi hyi t0 t1 p3 p4 (by omega) hpos; unfold callF at hok
        rw [if_neg (by rw [not_or]; exact ⟨t0, fun hn => hn t1⟩), if_neg (by simp [p3, p4]), if_neg hl] at hok
        rw [if_neg hl] at hp
        exact Stp.okd hp hok
    · exact Stp.bad (by rw [hp, if_pos (.inr p4)]) (by decide) (hbad 12 (.inr (.inr (.inr (.inl ⟨t2, t1, p3, p4, rfl⟩)))))
  · exact Stp.bad (by rw [hp, if_pos (.inr t1)]) (by decide) (hbad 11 (.inr (.inl ⟨t0, t1, rfl⟩)))
end
end Go.Proofs.YthmpnnfejghhfaaGreatDoor
