/- What the parts say: The stepper's instructions that make a key of a key. Conditions: none. -/
import Derived.Test.YthmpnnfejghhfaaGreatDoorP32
import Derived.Test.YthmpnnfejghhfaaGreatDoorP15
import Derived.Test.YthmpnnfejghhfaaGreatDoorP04
set_option linter.unusedVariables false
set_option linter.unusedSimpArgs false
namespace Go.Proofs.YthmpnnfejghhfaaGreatDoor
theorem az7 {P : Prop} (h : P := by
  obtain ⟨rk, re⟩ := r; have HC := Lib.hid hc; clear hc
  by_cases he : re = 0
  · subst he
    rw [if_pos rfl]
    go_enter Tryz.func102, Tryz.ntmps102
    have cF := hI.facts; (try simp only [mm] at cF)
    go_wp2_with (first | (go_at_call 91; refine am144 ?_; intro w1 hb1 hI'; (try clear hb); refine am92 ?_; clear hI hI'; (try clear cF); intro hI cF) | (refine lv 23 hI Tryz.zeroValue23 fun gx w' hI' hb => ?_; (try clear hb); refine am92 ?_; clear hI hI'; (try clear cF); intro hI cF) | (refine lv 75 hI Tryz.zeroValue75 fun gx w' hI' hb => ?_; (try clear hb); refine am92 ?_; clear hI hI'; (try clear cF); intro hI cF) | fail)
    (refine wp_region_KG 9 [2, 3] (by kernel_rfl) hI fun w' hI' hHeld => ?_; (try clear hb); refine am92 ?_; clear hI hI'; (try clear cF); intro hI cF)
    refine am108 ?_; intro K hK; (go_simp; refine (c_number_ok (HP.out.on (H0.out.same (ts := [_, _]) hI (by simp))) c z hz hc8 hzi).mono ?_; refine am185 ?_; clear hK K hI; intro w' hHeld; (try clear cF); intro hI cF); refine oneG (i := 6) (by kernel_rfl) rfl (fun K hK => ?_); (go_simp; refine (HC.out _).mono ?_; refine am97 ?_; clear hK K hI; (try clear cF); intro w' hHeld hI cF); refine am158 ?_; intro K hK; refine (c_setKey_ok (HP.out.on (H0.out.same (ts := [_, _]) hI (by simp))) rk a ha8 rfl).mono ?_; rintro ed w4 ⟨rfl, hP4⟩; refine hK.out _ _ ?_; clear hK hI; (try clear cF); skip; refine doneG (by kernel_rfl) ?_ _
    go_wp2_with fail
    go_end0
    exact Or.inl ⟨rfl, rfl, hP4⟩
  · rw [if_neg he]
    go_enter Tryz.func102, Tryz.ntmps102
    have cF := hI.facts; (try simp only [mm] at cF)
    go_wp2_with (first | (go_at_call 91; refine am144 ?_; intro w1 hb1 hI'; (try clear hb); refine am92 ?_; clear hI hI'; (try clear cF); intro hI cF) | (refine lv 23 hI Tryz.zeroValue23 fun gx w' hI' hb => ?_; (try clear hb); refine am92 ?_; clear hI hI'; (try clear cF); intro hI cF) | (refine lv 75 hI Tryz.zeroValue75 fun gx w' hI' hb => ?_; (try clear hb); refine am92 ?_; clear hI hI'; (try clear cF); intro hI cF) | fail)
    (refine wp_region_KG 9 [2, 3] (by kernel_rfl) hI fun w' hI' hHeld => ?_; (try clear hb); refine am92 ?_; clear hI hI'; (try clear cF); intro hI cF)
    refine am108 ?_; intro K hK; (go_simp; refine (c_number_ok (HP.out.on (H0.out.same (ts := [_, _]) hI (by simp))) c z hz hc8 hzi).mono ?_; refine am185 ?_; clear hK K hI; intro w' hHeld; (try clear cF); intro hI cF); refine oneG (i := 6) (by kernel_rfl) rfl (fun K hK => ?_); (go_simp; refine (HC.out _).mono ?_; refine am97 ?_; clear hK K hI; (try clear cF); intro w' hHeld hI cF); refine am158 ?_; intro K hK; refine (c_setKey_err gs rk re he _).mono ?_; rintro ed w4 ⟨rfl, hb4⟩; have hbl := H0.out.same (ts := [_, _]) hI (by simp)
    exact ⟨rfl, Stp.err he (Below.trans hbl (Below.mono hb4 hbl.size))⟩) : P := h
theorem az8 {P : Prop} (h : P := by
  obtain ⟨rk, re⟩ := r; have HC := Lib.hid hc; clear hc
  by_cases he : re = 0
  · subst he
    rw [if_pos rfl]
    go_enter Tryz.func102, Tryz.ntmps102
    have cF := hI.facts; (try simp only [mm] at cF)
    go_wp2_with (first | (go_at_call 91; refine am144 ?_; intro w1 hb1 hI'; (try clear hb); refine am92 ?_; clear hI hI'; (try clear cF); intro hI cF) | (refine lv 23 hI Tryz.zeroValue23 fun gx w' hI' hb => ?_; (try clear hb); refine am92 ?_; clear hI hI'; (try clear cF); intro hI cF) | (refine lv 75 hI Tryz.zeroValue75 fun gx w' hI' hb => ?_; (try clear hb); refine am92 ?_; clear hI hI'; (try clear cF); intro hI cF) | fail)
    (refine wp_region_KG 9 [2, 3] (by kernel_rfl) hI fun w' hI' hHeld => ?_; (try clear hb); refine am92 ?_; clear hI hI'; (try clear cF); intro hI cF)
    refine am108 ?_; intro K hK; (go_simp; refine (c_key_ok (HP.out.on (H0.out.same (ts := [_, _]) hI (by simp))) c z hz hc8 hzi).mono ?_; refine am185 ?_; clear hK K hI; intro w' hHeld; (try clear cF); intro hI cF); refine oneG (i := 6) (by kernel_rfl) rfl (fun K hK => ?_); (go_simp; refine (HC.out _).mono ?_; refine am97 ?_; clear hK K hI; (try clear cF); intro w' hHeld hI cF); refine am158 ?_; intro K hK; refine (c_setKey_ok (HP.out.on (H0.out.same (ts := [_, _]) hI (by simp))) rk a ha8 rfl).mono ?_; rintro ed w4 ⟨rfl, hP4⟩; refine hK.out _ _ ?_; clear hK hI; (try clear cF); skip; refine doneG (by kernel_rfl) ?_ _
    go_wp2_with fail
    go_end0
    exact Or.inl ⟨rfl, rfl, hP4⟩
  · rw [if_neg he]
    go_enter Tryz.func102, Tryz.ntmps102
    have cF := hI.facts; (try simp only [mm] at cF)
    go_wp2_with (first | (go_at_call 91; refine am144 ?_; intro w1 hb1 hI'; (try clear hb); refine am92 ?_; clear hI hI'; (try clear cF); intro hI cF) | (refine lv 23 hI Tryz.zeroValue23 fun gx w' hI' hb => ?_; (try clear hb); refine am92 ?_; clear hI hI'; (try clear cF); intro hI cF) | (refine lv 75 hI Tryz.zeroValue75 fun gx w' hI' hb => ?_; (try clear hb); refine am92 ?_; clear hI hI'; (try clear cF); intro hI cF) | fail)
    (refine wp_region_KG 9 [2, 3] (by kernel_rfl) hI fun w' hI' hHeld => ?_; (try clear hb); refine am92 ?_; clear hI hI'; (try clear cF); intro hI cF)
    refine am108 ?_; intro K hK; (go_simp; refine (c_key_ok (HP.out.on (H0.out.same (ts := [_, _]) hI (by simp))) c z hz hc8 hzi).mono ?_; refine am185 ?_; clear hK K hI; intro w' hHeld; (try clear cF); intro hI cF); refine oneG (i := 6) (by kernel_rfl) rfl (fun K hK => ?_); (go_simp; refine (HC.out _).mono ?_; refine am97 ?_; clear hK K hI; (try clear cF); intro w' hHeld hI cF); refine am158 ?_; intro K hK; refine (c_setKey_err gs rk re he _).mono ?_; rintro ed w4 ⟨rfl, hb4⟩; have hbl := H0.out.same (ts := [_, _]) hI (by simp)
    exact ⟨rfl, Stp.err he (Below.trans hbl (Below.mono hb4 hbl.size))⟩) : P := h
theorem az27 {P : Prop} (h : P := by
  obtain ⟨io, ia, ib, ic⟩ := i; dsimp only at hib hic hop
  subst hib hic hop
  refine am131 ?_; intro HP h8 va vs vo hI; generalize (machL m.regs m.code va vs vo).toArray = mc at hI; have H0 := Lib.hid hI; clear h
  go_enter Tryz.func102, Tryz.ntmps102
  have cF := hI.facts; (try simp only [mm] at cF)
  go_wp2_with (first | (go_at_call 91; refine am144 ?_; intro w1 hb1 hI'; (try clear hb); refine am92 ?_; clear hI hI'; (try clear cF); intro hI cF) | (refine lv 23 hI Tryz.zeroValue23 fun gx w' hI' hb => ?_; (try clear hb); refine am92 ?_; clear hI hI'; (try clear cF); intro hI cF) | (refine lv 75 hI Tryz.zeroValue75 fun gx w' hI' hb => ?_; (try clear hb); refine am92 ?_; clear hI hI'; (try clear cF); intro hI cF) | fail)
  (refine wp_region_KG 9 [2, 3] (by kernel_rfl) hI fun w' hI' hHeld => ?_; (try clear hb); refine am92 ?_; clear hI hI'; (try clear cF); intro hI cF)
  refine am108 ?_; intro K hK; go_simp; have hbl := H0.out.same (ts := [_, _]) hI (by simp); refine (c_number_err (HP.out.on hbl) c z hz hc8 hzi).mono ?_; rintro ed w1 ⟨rfl, hb1⟩
  exact ⟨rfl, rfl, Below.trans hbl (Below.mono hb1 hbl.size)⟩) : P := h
theorem az28 {P : Prop} (h : P := by
  obtain ⟨io, ia, ib, ic⟩ := i; dsimp only at hib hic hop
  subst hib hic hop
  refine am131 ?_; intro HP h8 va vs vo hI; generalize (machL m.regs m.code va vs vo).toArray = mc at hI; have H0 := Lib.hid hI; clear h
  go_enter Tryz.func102, Tryz.ntmps102
  have cF := hI.facts; (try simp only [mm] at cF)
  go_wp2_with (first | (go_at_call 91; refine am144 ?_; intro w1 hb1 hI'; (try clear hb); refine am92 ?_; clear hI hI'; (try clear cF); intro hI cF) | (refine lv 23 hI Tryz.zeroValue23 fun gx w' hI' hb => ?_; (try clear hb); refine am92 ?_; clear hI hI'; (try clear cF); intro hI cF) | (refine lv 75 hI Tryz.zeroValue75 fun gx w' hI' hb => ?_; (try clear hb); refine am92 ?_; clear hI hI'; (try clear cF); intro hI cF) | fail)
  (refine wp_region_KG 9 [2, 3] (by kernel_rfl) hI fun w' hI' hHeld => ?_; (try clear hb); refine am92 ?_; clear hI hI'; (try clear cF); intro hI cF)
  refine am108 ?_; intro K hK; go_simp; have hbl := H0.out.same (ts := [_, _]) hI (by simp); refine (c_key_err (HP.out.on hbl) c z hz hc8 hzi).mono ?_; rintro ed w1 ⟨rfl, hb1⟩
  exact ⟨rfl, rfl, Below.trans hbl (Below.mono hb1 hbl.size)⟩) : P := h
theorem am108 {P Q : Prop} (k : Q) (h : Hq Q → P := by (intro k_; (refine tg 0 ?_; (try simp only [np, Act.put])); (refine tg 1 ?_; (try simp only [np, Act.put])); (refine tg 2 ?_; (try simp only [np, Act.put])); (refine tg 3 ?_; (try simp only [np, Act.put])); (refine tg 4 ?_; (try simp only [np, Act.put])); refine oneG (i := 5) (by kernel_rfl) rfl (fun K hK => ?_); revert hK; revert K; exact k_.out)) : P := h ⟨k⟩
theorem am158 {P Q : Prop} (k : Q) (h : Hq Q → P := by (intro k_; (refine tg 7 ?_; (try simp only [np, Act.put])); (refine tg 8 ?_; (try simp only [np, Act.put])); refine oneGs (i := 9) (by kernel_rfl) rfl (by kernel_rfl) (fun K hK => ?_); go_simp; revert hK; revert K; exact k_.out)) : P := h ⟨k⟩
theorem am185 {P Q : Prop} (k : Q) (h : Hq Q → P := by (intro k_; rintro ed w' ⟨rfl, hb⟩; have hI' := hI.on hb; refine am149 ?_; intro hHeld; (try clear hb); refine am103 ?_; clear hI'; revert hHeld; revert w'; exact k_.out)) : P := h ⟨k⟩
open Go.RowKit
set_option maxRecDepth 100000
section
variable {T : Nat → Prop} {w0 w : World} {gm gs : Nat} {m : Mach} {i : Inst}
theorem Stp.err {w' : World} {e : Int} (he : ¬ e = 0) (hb : Below w.heap.size w w') : Stp T w0 gm gs i w (m, e) (.panicked (thrown e)) w' := Or.inr ⟨he, rfl, hb⟩
set_option maxHeartbeats 4000000 in
theorem c_byKey_no (h : StAt T w0 gm gs m i w) (b : Nat) (y : Val) (hb8 : b < 8) (hib : i.b = b) (hy : m.regs[b]? = some y) (hyi : y.is = false) :
    Calls Tryz.prog 102 #[.pointer (some ⟨gs, 0, none⟩)] w (Thr 10 w) := by
  obtain ⟨io, ia, ib, ic⟩ := i; dsimp only at hib
  subst hib
  refine am131 ?_; intro HP h8 va vs vo hI; generalize (machL m.regs m.code va vs vo).toArray = mc at hI; have H0 := Lib.hid hI; clear h
  go_enter Tryz.func102, Tryz.ntmps102
  have cF := hI.facts; (try simp only [mm] at cF)
  go_wp2_with (first | (go_at_call 91; refine (c_key_err HP.out b y hy hb8 hyi).mono ?_; rintro ed w1 ⟨rfl, hb1⟩) | fail)
  exact ⟨rfl, rfl, hb1⟩
set_option maxHeartbeats 4000000 in
theorem c_byKey_drop (h : StAt T w0 gm gs m i w) (a b : Nat) (y : Val) (ha8 : a < 8) (hb8 : b < 8) (hia : i.a = a) (hib : i.b = b) (hop : i.op = 14) (hy : m.regs[b]? = some y) (hyi : y.is = true) :
    Calls Tryz.prog 102 #[.pointer (some ⟨gs, 0, none⟩)] w (Stp T w0 gm gs i w (retF m a (keyDrop y.key i.c))) := by
  obtain ⟨io, ia, ib, ic⟩ := i; dsimp only at hia hib hop
  subst hia hib hop
  refine am131 ?_; intro HP h8 va vs vo hI; generalize (machL m.regs m.code va vs vo).toArray = mc at hI; have H0 := Lib.hid hI; clear h
  have hc := c_keys_Drop y.key ic; unfold retF
  generalize keyDrop y.key ic = r at *
  obtain ⟨rk, re⟩ := r; have HC := Lib.hid hc; clear hc
  by_cases he : re = 0
  · subst he
    rw [if_pos rfl]
    go_enter Tryz.func102, Tryz.ntmps102
    have cF := hI.facts; (try simp only [mm] at cF)
    go_wp2_with (first
      | (go_at_call 91; refine am144 ?_; intro w1 hb1 hI'; (try clear hb); refine am92 ?_; clear hI hI'; (try clear cF); intro hI cF)
      | (refine lv 23 hI Tryz.zeroValue23 fun gx w' hI' hb => ?_; (try clear hb); refine am92 ?_; clear hI hI'; (try clear cF); intro hI cF) | (refine lv 75 hI Tryz.zeroValue75 fun gx w' hI' hb => ?_; (try clear hb); refine am92 ?_; clear hI hI'; (try clear cF); intro hI cF)
      | (go_at_call 110; (with_reducible refine (HC.out _).mono ?_); refine am101 ?_; clear hI; (try clear cF); intro w' hI cF)
      | (go_at_call 101; refine (c_setKey_ok (HP.out.on (H0.out.same (ts := _) hI (by simp))) rk a ha8 rfl).mono ?_; rintro ed w4 ⟨rfl, hP4⟩)
      | fail)
    go_end0
    exact Or.inl ⟨rfl, rfl, hP4⟩
  · rw [if_neg he]
    go_enter Tryz.func102, Tryz.ntmps102
    have cF := hI.facts; (try simp only [mm] at cF)
    go_wp2_with (first
      | (go_at_call 91; refine am144 ?_; intro w1 hb1 hI'; (try clear hb); refine am92 ?_; clear hI hI'; (try clear cF); intro hI cF)
      | (refine lv 23 hI Tryz.zeroValue23 fun gx w' hI' hb => ?_; (try clear hb); refine am92 ?_; clear hI hI'; (try clear cF); intro hI cF) | (refine lv 75 hI Tryz.zeroValue75 fun gx w' hI' hb => ?_; (try clear hb); refine am92 ?_; clear hI hI'; (try clear cF); intro hI cF)
      | (go_at_call 110; (with_reducible refine (HC.out _).mono ?_); refine am101 ?_; clear hI; (try clear cF); intro w' hI cF)
      | (go_at_call 101; refine (c_setKey_err gs rk re he _).mono ?_; rintro ed w4 ⟨rfl, hb4⟩)
      | fail)
    have hbl := H0.out.same (ts := _) hI (by simp)
    exact ⟨rfl, Stp.err he (Below.trans hbl (Below.mono hb4 hbl.size))⟩
set_option maxHeartbeats 4000000 in
theorem c_byKey_move (h : StAt T w0 gm gs m i w) (a b c : Nat) (y z : Val) (ha8 : a < 8) (hb8 : b < 8) (hc8 : c < 8) (hia : i.a = a) (hib : i.b = b) (hic : i.c = c) (hop : i.op = 12) (hy : m.regs[b]? = some y) (hz : m.regs[c]? = some z) (hyi : y.is = true) (hzi : z.is = false) (hzn : i64 z.n) :
    Calls Tryz.prog 102 #[.pointer (some ⟨gs, 0, none⟩)] w (Stp T w0 gm gs i w (retF m a (keyMove y.key z.n))) := by
  obtain ⟨io, ia, ib, ic⟩ := i; dsimp only at hia hib hic hop
  subst hia hib hic hop
  refine am131 ?_; intro HP h8 va vs vo hI; generalize (machL m.regs m.code va vs vo).toArray = mc at hI; have H0 := Lib.hid hI; clear h
  have hc := c_keys_Move y.key z.n hzn; unfold retF
  generalize keyMove y.key z.n = r at *
  exact az7
set_option maxHeartbeats 4000000 in
theorem c_byKey_move_no (h : StAt T w0 gm gs m i w) (b c : Nat) (y z : Val) (hb8 : b < 8) (hc8 : c < 8) (hib : i.b = b) (hic : i.c = c) (hop : i.op = 12) (hy : m.regs[b]? = some y) (hz : m.regs[c]? = some z) (hyi : y.is = true) (hzi : z.is = true) :
    Calls Tryz.prog 102 #[.pointer (some ⟨gs, 0, none⟩)] w (Thr 10 w) := by
  exact az27
set_option maxHeartbeats 4000000 in
theorem c_byKey_narrow (h : StAt T w0 gm gs m i w) (a b c : Nat) (y z : Val) (ha8 : a < 8) (hb8 : b < 8) (hc8 : c < 8) (hia : i.a = a) (hib : i.b = b) (hic : i.c = c) (hop : i.op = 13) (hy : m.regs[b]? = some y) (hz : m.regs[c]? = some z) (hyi : y.is = true) (hzi : z.is = false) (hzn : i64 z.n) :
    Calls Tryz.prog 102 #[.pointer (some ⟨gs, 0, none⟩)] w (Stp T w0 gm gs i w (retF m a (keyNarrow y.key z.n))) := by
  obtain ⟨io, ia, ib, ic⟩ := i; dsimp only at hia hib hic hop
  subst hia hib hic hop
  refine am131 ?_; intro HP h8 va vs vo hI; generalize (machL m.regs m.code va vs vo).toArray = mc at hI; have H0 := Lib.hid hI; clear h
  have hc := c_keys_Narrow y.key z.n hzn; unfold retF
  generalize keyNarrow y.key z.n = r at *
  exact az7
set_option maxHeartbeats 4000000 in
theorem c_byKey_narrow_no (h : StAt T w0 gm gs m i w) (b c : Nat) (y z : Val) (hb8 : b < 8) (hc8 : c < 8) (hib : i.b = b) (hic : i.c = c) (hop : i.op = 13) (hy : m.regs[b]? = some y) (hz : m.regs[c]? = some z) (hyi : y.is = true) (hzi : z.is = true) :
    Calls Tryz.prog 102 #[.pointer (some ⟨gs, 0, none⟩)] w (Thr 10 w) := by
  exact az27
set_option maxHeartbeats 4000000 in
theorem c_byKey_seal (h : StAt T w0 gm gs m i w) (a b c : Nat) (y z : Val) (ha8 : a < 8) (hb8 : b < 8) (hc8 : c < 8) (hia : i.a = a) (hib : i.b = b) (hic : i.c = c) (hop : i.op = 15) (hy : m.regs[b]? = some y) (hz : m.regs[c]? = some z) (hyi : y.is = true) (hzi : z.is = true) (hzw : z.key.Wf) :
    Calls Tryz.prog 102 #[.pointer (some ⟨gs, 0, none⟩)] w (Stp T w0 gm gs i w (retF m a (keySeal y.key z.key))) := by
  obtain ⟨io, ia, ib, ic⟩ := i; dsimp only at hia hib hic hop
  subst hia hib hic hop
  refine am131 ?_; intro HP h8 va vs vo hI; generalize (machL m.regs m.code va vs vo).toArray = mc at hI; have H0 := Lib.hid hI; clear h
  have hc := c_keys_Seal y.key z.key hzw; unfold retF
  generalize keySeal y.key z.key = r at *
  exact az8
set_option maxHeartbeats 4000000 in
theorem c_byKey_seal_no (h : StAt T w0 gm gs m i w) (b c : Nat) (y z : Val) (hb8 : b < 8) (hc8 : c < 8) (hib : i.b = b) (hic : i.c = c) (hop : i.op = 15) (hy : m.regs[b]? = some y) (hz : m.regs[c]? = some z) (hyi : y.is = true) (hzi : z.is = false) :
    Calls Tryz.prog 102 #[.pointer (some ⟨gs, 0, none⟩)] w (Thr 10 w) := by
  exact az28
set_option maxHeartbeats 4000000 in
theorem c_byKey_open (h : StAt T w0 gm gs m i w) (a b c : Nat) (y z : Val) (ha8 : a < 8) (hb8 : b < 8) (hc8 : c < 8) (hia : i.a = a) (hib : i.b = b) (hic : i.c = c) (hop : i.op = 16) (hy : m.regs[b]? = some y) (hz : m.regs[c]? = some z) (hyi : y.is = true) (hzi : z.is = true) (hzw : z.key.Wf) :
    Calls Tryz.prog 102 #[.pointer (some ⟨gs, 0, none⟩)] w (Stp T w0 gm gs i w (retF m a (keyOpen y.key z.key))) := by
  obtain ⟨io, ia, ib, ic⟩ := i; dsimp only at hia hib hic hop
  subst hia hib hic hop
  refine am131 ?_; intro HP h8 va vs vo hI; generalize (machL m.regs m.code va vs vo).toArray = mc at hI; have H0 := Lib.hid hI; clear h
  have hc := c_keys_Open y.key z.key hzw; unfold retF
  generalize keyOpen y.key z.key = r at *
  exact az8
set_option maxHeartbeats 4000000 in
theorem c_byKey_open_no (h : StAt T w0 gm gs m i w) (b c : Nat) (y z : Val) (hb8 : b < 8) (hc8 : c < 8) (hib : i.b = b) (hic : i.c = c) (hop : i.op = 16) (hy : m.regs[b]? = some y) (hz : m.regs[c]? = some z) (hyi : y.is = true) (hzi : z.is = false) :
    Calls Tryz.prog 102 #[.pointer (some ⟨gs, 0, none⟩)] w (Thr 10 w) := by
  exact az28
end
end Go.Proofs.YthmpnnfejghhfaaGreatDoor
