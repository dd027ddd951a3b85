/- What the parts say: The stepper's instructions by a key and its plain ones, whole. Conditions: the machine is one that may be, the instruction is well formed. -/
import Derived.Test.YthmpnnfejghhfaaGreatDoorP35
import Derived.Test.YthmpnnfejghhfaaGreatDoorP37
import Derived.Test.YthmpnnfejghhfaaGreatDoorP36
import Derived.Test.YthmpnnfejghhfaaGreatDoorP32
import Derived.Test.YthmpnnfejghhfaaGreatDoorP21
import Derived.Test.YthmpnnfejghhfaaGreatDoorP20
set_option linter.unusedVariables false
set_option linter.unusedSimpArgs false
namespace Go.Proofs.YthmpnnfejghhfaaGreatDoor
theorem az17 {P : Prop} (h : P := by
  by_cases he : p.2 = 0
  · refine am165 ?_; obtain ⟨io, ia, ib, ic⟩ := i; dsimp only at hop hia
    subst hop hia
    refine am131 ?_; intro HP h8 va vs vo hI; generalize (machL m.regs m.code va vs vo).toArray = mc at hI; have H0 := Lib.hid hI; clear h
    go_enter Tryz.func52, Tryz.ntmps52
    have cF := hI.facts; (try simp only [mm] at cF)
    go_wp2_with (first
      | (refine lv 75 hI Tryz.zeroValue75 fun gx w' hI' hb => ?_; (try clear hb); refine am92 ?_; clear hI hI'; (try clear cF); intro hI cF)
      | (go_at_call 79; refine am197 ?_; intro hbl w1 hb1 hI'; (try clear hb); refine am92 ?_; clear hI hI'; (try clear cF); intro hI cF)
      | (go_at_call 78; have hbl2 := H0.out.same (ts := [_]) hI (by simp); refine (HA.out _ (HP.out.on hbl2)).mono ?_; intro ed w4 hs; obtain ⟨rfl, hP4⟩ := hs.yes he)
      | fail)
    go_end0
    exact ⟨rfl, hP4⟩
  · refine Calls.mono (R := Thr p.2 w) ?_ (fun ed w' h => .inr ⟨he, h⟩); obtain ⟨io, ia, ib, ic⟩ := i; dsimp only at hop hia
    subst hop hia
    refine am131 ?_; intro HP h8 va vs vo hI; generalize (machL m.regs m.code va vs vo).toArray = mc at hI; have H0 := Lib.hid hI; clear h
    go_enter Tryz.func52, Tryz.ntmps52
    have cF := hI.facts; (try simp only [mm] at cF)
    go_wp2_with (first
      | (refine lv 75 hI Tryz.zeroValue75 fun gx w' hI' hb => ?_; (try clear hb); refine am92 ?_; clear hI hI'; (try clear cF); intro hI cF)
      | (go_at_call 79; refine am197 ?_; intro hbl w1 hb1 hI'; (try clear hb); refine am92 ?_; clear hI hI'; (try clear cF); intro hI cF)
      | (go_at_call 78; have hbl2 := H0.out.same (ts := [_]) hI (by simp); refine (HA.out _ (HP.out.on hbl2)).mono ?_; intro ed w4 hs; obtain ⟨rfl, hb1⟩ := hs.no he)
      | fail)
    exact ⟨rfl, rfl, Below.trans hbl2 (Below.mono hb1 hbl2.size)⟩) : P := h
theorem am129 {P Q : Prop} (k : Q) (h : Hq Q → P := by (intro k_; have hkl : k < m.mem.length := (List.getElem?_eq_some_iff.1 hv).1; have HP := Lib.hid h; obtain ⟨g, cur, cp, vs, vo, h8, hI, hnc, hq⟩ := h.three (by omega); have q0 := hq k v hv 0 (by decide); have q1 := hq k v hv 1 (by decide); simp only [encV, List.getElem?_cons_zero, List.getElem?_cons_succ, Nat.add_zero] at q0 q1; have hat := c_mem_At (some ⟨g, 0, none⟩) m.mem.length cp m.code (by have := keyOk_iff.1 hM.code; constructor <;> unfold i64 <;> omega) 0 4 (by have := hM.len; unfold maxLen; omega); revert hat; revert q1; revert q0; revert hq; revert hnc; revert hI; revert h8; revert vo; revert vs; revert cp; revert cur; revert g; revert HP; revert hkl; exact k_.out)) : P := h ⟨k⟩
theorem am165 {P Q : Prop} (k : Q) (h : Hq Q → P := by (intro k_; refine Calls.mono (R := fun ed w' => ed = .returned (.tuple #[]) ∧ StAt T w0 gm gs p.1 i w') ?_ (fun ed w' h => .inl ⟨he, h⟩); exact k_.out)) : P := h ⟨k⟩
open Go.RowKit
set_option maxRecDepth 100000
theorem Key.wf_ok {k : Key} (h : keyOk k = true) : k.Wf := by
  have := keyOk_iff.1 h
  constructor <;> unfold i64 <;> omega
theorem instOk_c7 {i : Inst} (h : instOk i = true) (hop : i.op = 3 ∨ i.op = 4 ∨ i.op = 5 ∨ i.op = 6 ∨ i.op = 7 ∨ i.op = 12 ∨ i.op = 13 ∨ i.op = 15 ∨ i.op = 16) : 0 ≤ i.c ∧ i.c ≤ 7 := by
  simp only [instOk, Bool.and_eq_true, inR_iff] at h; have h1 := h.2
  rcases hop with e | e | e | e | e | e | e | e | e <;>
  · rw [e] at h1
    simpa [shapeN, lowC, highC] using h1
theorem instOk_c5 {i : Inst} (h : instOk i = true) (hop : i.op = 17) : 0 ≤ i.c ∧ i.c ≤ 5 := by
  simp only [instOk, Bool.and_eq_true, inR_iff] at h; have h1 := h.2
  rw [hop] at h1
  simpa [shapeN, lowC, highC] using h1
theorem MachOk.n64 {m : Mach} (h : MachOk m) (r : Int) : i64 (regV m r).n := by
  have h1 := h.reg r
  cases hi : (regV m r).is
  · have := (valE_not h1 hi).1
    unfold i64; omega
  · have := (valE_is h1 hi).2
    unfold i64; omega
section
variable {T : Nat → Prop} {w0 w : World} {gm gs : Nat} {m : Mach} {i : Inst}
theorem c_byKey (h : StAt T w0 gm gs m i w) (hM : MachOk m) (hi : instOk i = true) (hop : i.op = 10 ∨ i.op = 11 ∨ i.op = 12 ∨ i.op = 13 ∨ i.op = 14 ∨ i.op = 15 ∨ i.op = 16) :
    Calls Tryz.prog 102 #[.pointer (some ⟨gs, 0, none⟩)] w (Stp T w0 gm gs i w (byKeyF i m)) := by
  have hin := instOk_in hi; obtain ⟨a, ha', ha8, hva⟩ := reg_nat h.1 hin.2.1; obtain ⟨b, hb', hb8, hvb⟩ := reg_nat h.1 hin.2.2.1
  have hmw : m.mem.length ≤ maxLen := by have := hM.len; unfold maxLen; omega
  cases hv : (regV m i.b).is
  · exact Stp.bad (q := m) (e := 10) (by unfold byKeyF; dsimp only; rw [if_pos hv]) (by decide) (c_byKey_no h b _ hb8 hb' hvb hv)
  have hvn : ¬ (regV m i.b).is = false := (by simp [hv]); have hyw := Key.wf_ok (valE_is (hM.reg i.b) hv).1
  rcases hop with hop | hop | hop
  · have e : byKeyF i m = if (getF m.mem (regV m i.b).key i.c).2 = 0 then (setR m i.a (getF m.mem (regV m i.b).key i.c).1, 0) else (m, (getF m.mem (regV m i.b).key i.c).2) := by
      unfold byKeyF; dsimp only; rw [if_neg hvn, if_pos hop]
    by_cases he : (getF m.mem (regV m i.b).key i.c).2 = 0
    · rw [if_pos he, ha'] at e
      exact Stp.okd e (c_byKey_load h a b _ ha8 hb8 ha' hb' hop hvb hv hyw hmw he)
    · rw [if_neg he] at e
      exact Stp.bad e he (c_byKey_load_no h a b _ ha8 hb8 ha' hb' hop hvb hv hyw hmw he)
  · have e : byKeyF i m = if (putF m.mem (regV m i.b).key i.c (regV m i.a)).2 = 0 then ({ m with mem := (putF m.mem (regV m i.b).key i.c (regV m i.a)).1 }, 0) else (m, (putF m.mem (regV m i.b).key i.c (regV m i.a)).2) := by
      unfold byKeyF; dsimp only; rw [if_neg hvn, if_neg (by omega), if_pos hop]
    by_cases he : (putF m.mem (regV m i.b).key i.c (regV m i.a)).2 = 0
    · rw [if_pos he] at e
      exact Stp.okd e (c_byKey_store h a b _ _ ha8 hb8 ha' hb' hop hva hvb hv hyw hmw he)
    · rw [if_neg he] at e
      exact Stp.bad e he (c_byKey_store_no h a b _ _ ha8 hb8 ha' hb' hop hva hvb hv hyw hmw he)
  · by_cases h14 : i.op = 14
    · have e : byKeyF i m = retF m i.a (keyDrop (regV m i.b).key i.c) := by unfold byKeyF; dsimp only; rw [if_neg hvn, if_neg (by omega), if_neg (by omega), if_pos h14]
      rw [e, ha']
      exact c_byKey_drop h a b _ ha8 hb8 ha' hb' h14 hvb hv
    obtain ⟨c, hc', hc8, hvc⟩ := reg_nat h.1 (instOk_c7 hi (by omega)); have hzw := hM.n64 i.c; have hzk := hM.reg i.c
    rcases (show (i.op = 12 ∨ i.op = 13) ∨ (i.op = 15 ∨ i.op = 16) by omega) with h2 | h2
    · have e : byKeyF i m = if (regV m i.c).is = true then (m, 10) else retF m i.a (if i.op = 12 then keyMove (regV m i.b).key (regV m i.c).n else keyNarrow (regV m i.b).key (regV m i.c).n) := by
        unfold byKeyF; dsimp only; rw [if_neg hvn, if_neg (by omega), if_neg (by omega), if_neg h14, if_pos h2]
      generalize regV m i.c = z at *
      cases hz : z.is
      · rw [if_neg (by simp [hz])] at e
        rcases h2 with h2 | h2
        · rw [if_pos h2, ha'] at e
          rw [e]
          exact c_byKey_move h a b c _ _ ha8 hb8 hc8 ha' hb' hc' h2 hvb hvc hv hz hzw
        · rw [if_neg (by omega), ha'] at e
          rw [e]
          exact c_byKey_narrow h a b c _ _ ha8 hb8 hc8 ha' hb' hc' h2 hvb hvc hv hz hzw
      · rw [if_pos hz] at e
        rcases h2 with h2 | h2
        · exact Stp.bad e (by decide) (c_byKey_move_no h b c _ _ hb8 hc8 hb' hc' h2 hvb hvc hv hz)
        · exact Stp.bad e (by decide) (c_byKey_narrow_no h b c _ _ hb8 hc8 hb' hc' h2 hvb hvc hv hz)
    · have e : byKeyF i m = if (regV m i.c).is = false then (m, 10) else retF m i.a (if i.op = 15 then keySeal (regV m i.b).key (regV m i.c).key else keyOpen (regV m i.b).key (regV m i.c).key) := by
        unfold byKeyF; dsimp only; rw [if_neg hvn, if_neg (by omega), if_neg (by omega), if_neg h14, if_neg (by omega), if_pos h2]
      generalize regV m i.c = z at *
      cases hz : z.is
      · rw [if_pos hz] at e
        rcases h2 with h2 | h2
        · exact Stp.bad e (by decide) (c_byKey_seal_no h b c _ _ hb8 hc8 hb' hc' h2 hvb hvc hv hz)
        · exact Stp.bad e (by decide) (c_byKey_open_no h b c _ _ hb8 hc8 hb' hc' h2 hvb hvc hv hz)
      · have hzk' := Key.wf_ok (valE_is hzk hz).1
        rw [if_neg (by simp [hz])] at e
        rcases h2 with h2 | h2
        · rw [if_pos h2, ha'] at e
          rw [e]
          exact c_byKey_seal h a b c _ _ ha8 hb8 hc8 ha' hb' hc' h2 hvb hvc hv hz hzk'
        · rw [if_neg (by omega), ha'] at e
          rw [e]
          exact c_byKey_open h a b c _ _ ha8 hb8 hc8 ha' hb' hc' h2 hvb hvc hv hz hzk'
theorem c_plain_key (h : StAt T w0 gm gs m i w) (hM : MachOk m) (hi : instOk i = true) (hop : i.op = 10 ∨ i.op = 11 ∨ i.op = 12 ∨ i.op = 13 ∨ i.op = 14 ∨ i.op = 15 ∨ i.op = 16) :
    Calls Tryz.prog 82 #[.pointer (some ⟨gs, 0, none⟩)] w (Stp T w0 gm gs i w (byKeyF i m)) := by
  have HA := Lib.hid (fun w (h : StAt T w0 gm gs m i w) => c_byKey h hM hi hop)
  obtain ⟨q, hq⟩ : ∃ q, byKeyF i m = q := ⟨_, rfl⟩
  rw [hq] at HA ⊢
  clear hq hM hi
  have e1 : (i.op == 1) = false := by simp; omega
  have e2 : (i.op == 2) = false := by simp; omega
  have e3 : (i.op == 3) = false := by simp; omega
  have e4 : (i.op == 4) = false := by simp; omega
  have e5 : (i.op == 5) = false := by simp; omega
  have e6 : (i.op == 6) = false := by simp; omega
  have e7 : (i.op == 7) = false := by simp; omega
  have e17 : (i.op == 17) = false := by simp; omega
  have e20 : (i.op == 20) = false := by simp; omega
  have e21 : (i.op == 21) = false := by simp; omega
  have e22 : (i.op == 22) = false := by simp; omega
  clear hop
  by_cases he : q.2 = 0
  · refine Calls.mono (R := fun ed w' => ed = .returned (.tuple #[]) ∧ StAt T w0 gm gs q.1 i w') ?_ (fun ed w' h => .inl ⟨he, h⟩); obtain ⟨io, ia, ib, ic⟩ := i; dsimp only at e1 e2 e3 e4 e5 e6 e7 e17 e20 e21 e22
    refine am131 ?_; intro HP h8 va vs vo hI; generalize (machL m.regs m.code va vs vo).toArray = mc at hI; have H0 := Lib.hid hI; clear h
    go_enter Tryz.func82, Tryz.ntmps82
    have cF := hI.facts; (try simp only [mm] at cF)
    go_wp2_with (first
      | (refine lv 75 hI Tryz.zeroValue75 fun gx w' hI' hb => ?_; (try clear hb); refine am92 ?_; clear hI hI'; (try clear cF); intro hI cF)
      | (go_at_call 102; refine am132 ?_; intro hbl ed w4 hs; obtain ⟨rfl, hP4⟩ := hs.yes he)
      | fail)
    go_end0
    exact ⟨rfl, hP4⟩
  · refine Calls.mono (R := Thr q.2 w) ?_ (fun ed w' h => .inr ⟨he, h⟩); obtain ⟨io, ia, ib, ic⟩ := i; dsimp only at e1 e2 e3 e4 e5 e6 e7 e17 e20 e21 e22
    refine am131 ?_; intro HP h8 va vs vo hI; generalize (machL m.regs m.code va vs vo).toArray = mc at hI; have H0 := Lib.hid hI; clear h
    go_enter Tryz.func82, Tryz.ntmps82
    have cF := hI.facts; (try simp only [mm] at cF)
    go_wp2_with (first
      | (refine lv 75 hI Tryz.zeroValue75 fun gx w' hI' hb => ?_; (try clear hb); refine am92 ?_; clear hI hI'; (try clear cF); intro hI cF)
      | (go_at_call 102; refine am132 ?_; intro hbl ed w4 hs; obtain ⟨rfl, hb1⟩ := hs.no he)
      | fail)
    exact ⟨rfl, rfl, Below.trans hbl (Below.mono hb1 hbl.size)⟩
theorem c_plain (h : StAt T w0 gm gs m i w) (hM : MachOk m) (hi : instOk i = true) (hop : ¬ (i.op = 0 ∨ i.op = 8 ∨ i.op = 9 ∨ i.op = 18 ∨ i.op = 19)) :
    Calls Tryz.prog 82 #[.pointer (some ⟨gs, 0, none⟩)] w (Stp T w0 gm gs i w (plainF i m)) := by
  have hin := instOk_in hi; obtain ⟨a, ha', ha8, hva⟩ := reg_nat h.1 hin.2.1; obtain ⟨b, hb', hb8, hvb⟩ := reg_nat h.1 hin.2.2.1
  by_cases h1 : i.op = 1
  · refine Stp.okd (q := setN m a i.c) ?_ (c_plain_set h a ha8 ha' h1)
    unfold plainF; rw [if_pos h1, ha']
  by_cases h2 : i.op = 2
  · refine Stp.okd (q := setR m a (regV m i.b)) ?_ (c_plain_copy h a b _ ha8 hb8 ha' hb' h2 hvb)
    unfold plainF; rw [if_neg h1, if_pos h2, ha']
  by_cases h3 : i.op = 3 ∨ i.op = 4 ∨ i.op = 5 ∨ i.op = 6 ∨ i.op = 7
  · obtain ⟨c, hc', hc8, hvc⟩ := reg_nat h.1 (instOk_c7 hi (by omega))
    have e : plainF i m = if (regV m i.b).is = true ∨ (regV m i.c).is = true then (m, 10) else if i.op = 6 then (if dve (regV m i.c).n = 0 then (setN m i.a (dvq (regV m i.b).n (regV m i.c).n), 0) else (m, dve (regV m i.c).n)) else (setN m i.a (numF i (regV m i.b).n (regV m i.c).n), 0) := by
      unfold plainF; rw [if_neg h1, if_neg h2, if_pos h3]
    generalize regV m i.b = x at *
    generalize regV m i.c = y at *
    rw [ha'] at e
    unfold numF at e
    cases hx : x.is
    · cases hy : y.is
      · rw [if_neg (by simp [hx, hy])] at e
        rcases h3 with h3 | h3 | h3 | h3 | h3
        · rw [if_neg (by omega), if_pos h3] at e
          exact Stp.okd e (c_plain_Add h a b c x y ha8 hb8 hc8 ha' hb' hc' h3 hvb hvc hx hy)
        · rw [if_neg (by omega), if_neg (by omega), if_pos h3] at e
          exact Stp.okd e (c_plain_Sub h a b c x y ha8 hb8 hc8 ha' hb' hc' h3 hvb hvc hx hy)
        · rw [if_neg (by omega), if_neg (by omega), if_neg (by omega), if_pos h3] at e
          exact Stp.okd e (c_plain_Mul h a b c x y ha8 hb8 hc8 ha' hb' hc' h3 hvb hvc hx hy)
        · rw [if_pos h3] at e
          by_cases hd : dve y.n = 0
          · rw [if_pos hd] at e
            exact Stp.okd e (c_plain_div h a b c x y ha8 hb8 hc8 ha' hb' hc' h3 hvb hvc hx hy hd)
          · rw [if_neg hd] at e
            exact Stp.bad e hd (c_plain_div_no h a b c x y ha8 hb8 hc8 ha' hb' hc' h3 hvb hvc hx hy hd)
        · rw [if_neg (by omega), if_neg (by omega), if_neg (by omega), if_neg (by omega)] at e
          exact Stp.okd e (c_plain_Less h a b c x y ha8 hb8 hc8 ha' hb' hc' h3 hvb hvc hx hy)
      · rw [if_pos (.inr hy)] at e
        refine Stp.bad e (by decide) ?_
        rcases h3 with h3 | h3 | h3 | h3 | h3
        · exact c_plain_Add_no2 h a b c x y ha8 hb8 hc8 ha' hb' hc' h3 hvb hvc hx hy
        · exact c_plain_Sub_no2 h a b c x y ha8 hb8 hc8 ha' hb' hc' h3 hvb hvc hx hy
        · exact c_plain_Mul_no2 h a b c x y ha8 hb8 hc8 ha' hb' hc' h3 hvb hvc hx hy
        · exact c_plain_div_no2 h a b c x y ha8 hb8 hc8 ha' hb' hc' h3 hvb hvc hx hy
        · exact c_plain_Less_no2 h a b c x y ha8 hb8 hc8 ha' hb' hc' h3 hvb hvc hx hy
    · rw [if_pos (.inl hx)] at e
      refine Stp.bad e (by decide) ?_
      rcases h3 with h3 | h3 | h3 | h3 | h3
      · exact c_plain_Add_no1 h a b c x y ha8 hb8 hc8 ha' hb' hc' h3 hvb hvc hx
      · exact c_plain_Sub_no1 h a b c x y ha8 hb8 hc8 ha' hb' hc' h3 hvb hvc hx
      · exact c_plain_Mul_no1 h a b c x y ha8 hb8 hc8 ha' hb' hc' h3 hvb hvc hx
      · exact c_plain_div_no1 h a b c x y ha8 hb8 hc8 ha' hb' hc' h3 hvb hvc hx
      · exact c_plain_Less_no1 h a b c x y ha8 hb8 hc8 ha' hb' hc' h3 hvb hvc hx
  by_cases h17 : i.op = 17
  · exact c_plain_ask h hin.2.1 hin.2.2.1 (instOk_c5 hi h17) h17
  by_cases h20 : i.op = 20
  · refine Stp.okd (q := setK m a m.code) ?_ (c_plain_here h a ha8 ha' h20)
    unfold plainF; rw [if_neg h1, if_neg h2, if_neg h3, if_neg h17, if_pos h20, ha']
  by_cases h21 : i.op = 21
  · refine Stp.okd (q := clearF m i.c) ?_ (c_plain_clear h h21)
    unfold plainF; rw [if_neg h1, if_neg h2, if_neg h3, if_neg h17, if_neg h20, if_pos h21]
  by_cases h22 : i.op = 22
  · have e : plainF i m = if (regV m i.a).is = true then (m, 10) else if m.out.length = 100 then (m, 9) else ({ m with out := m.out ++ [(regV m i.a).n] }, 0) := by
      unfold plainF; rw [if_neg h1, if_neg h2, if_neg h3, if_neg h17, if_neg h20, if_neg h21, if_pos h22]
    cases hx : (regV m i.a).is
    · rw [if_neg (by simp [hx])] at e
      by_cases hl : m.out.length = 100
      · rw [if_pos hl] at e
        exact Stp.bad e (by decide) (c_plain_tell_full h a _ ha8 ha' h22 hva hx hl)
      · rw [if_neg hl] at e
        exact Stp.okd e (c_plain_tell h a _ ha8 ha' h22 hva hx (by have := hM.outs; omega))
    · rw [if_pos hx] at e
      exact Stp.bad e (by decide) (c_plain_tell_no h a _ ha8 ha' h22 hva hx)
  have e : plainF i m = byKeyF i m := by
    unfold plainF; rw [if_neg h1, if_neg h2, if_neg h3, if_neg h17, if_neg h20, if_neg h21, if_neg h22]
  rw [e]
  exact c_plain_key h hM hi (by omega)
end
end Go.Proofs.YthmpnnfejghhfaaGreatDoor
namespace Go.Proofs.YthmpnnfejghhfaaGreatDoor
open Go.RowKit
set_option maxRecDepth 100000
section
variable {T : Nat → Prop} {w0 w : World} {gm gs : Nat} {m : Mach} {i : Inst}
theorem wrap_pos {x d : Int} (h : 0 ≤ x ∧ x ≤ 400) (h2 : -4096 ≤ d ∧ d ≤ 4096) : wrap64 (x + d) = x + d := by unfold wrap64; omega
theorem c_goes (h : StAt T w0 gm gs m i w) (hM : MachOk m) (d : Int) (hd : -4096 ≤ d ∧ d ≤ 4096) : Calls Tryz.prog 78 #[.pointer (some ⟨gs, 0, none⟩), .int .i64 d] w (Stp T w0 gm gs i w (goF m d)) := by
  have hk := keyOk_iff.1 hM.code; have hw := wrap_pos (x := m.code.pos) hk.2.2.2.1 hd
  by_cases hr : inR (m.code.pos + d) 0 400 = true
  · have h1 := inR_iff.1 hr
    exact Stp.okd (by unfold goF; rw [if_pos hr]) (c_goes_ok h d hw h1.1 h1.2)
  · refine Stp.bad (q := m) (e := 13) (by unfold goF; rw [if_neg hr]) (by decide) (c_goes_err h d hw ?_); have h1 : ¬ (0 ≤ m.code.pos + d ∧ m.code.pos + d ≤ 400) := fun h2 => hr (inR_iff.2 h2)
    omega
theorem c_do_halt (h : StAt T w0 gm gs m i w) (hop : i.op = 0) : Calls Tryz.prog 52 #[.pointer (some ⟨gs, 0, none⟩)] w (Thr 16 w) := by
  obtain ⟨io, ia, ib, ic⟩ := i; dsimp only at hop
  subst hop
  refine am131 ?_; intro HP h8 va vs vo hI; generalize (machL m.regs m.code va vs vo).toArray = mc at hI; have H0 := Lib.hid hI; clear h
  go_enter Tryz.func52, Tryz.ntmps52
  have cF := hI.facts; (try simp only [mm] at cF)
  go_wp2_with (first
    | (refine lv 75 hI Tryz.zeroValue75 fun gx w' hI' hb => ?_; (try clear hb); refine am92 ?_; clear hI hI'; (try clear cF); intro hI cF)
    | (go_at_call 76; refine (c_must_err 16 (by decide) _).mono ?_; rintro ed w' ⟨rfl, rfl⟩)
    | fail)
  exact ⟨rfl, rfl, H0.out.same (ts := [_]) hI (by simp)⟩
theorem c_do_jump (h : StAt T w0 gm gs m i w) (hop : i.op = 8) (p : Mach × Int) (HG : ∀ w, StAt T w0 gm gs m i w → Calls Tryz.prog 78 #[.pointer (some ⟨gs, 0, none⟩), .int .i64 i.c] w (Stp T w0 gm gs i w p)) :
    Calls Tryz.prog 52 #[.pointer (some ⟨gs, 0, none⟩)] w (Stp T w0 gm gs i w p) := by
  have HA := Lib.hid HG; clear HG
  by_cases he : p.2 = 0
  · refine am165 ?_; obtain ⟨io, ia, ib, ic⟩ := i; dsimp only at hop
    subst hop
    refine am131 ?_; intro HP h8 va vs vo hI; generalize (machL m.regs m.code va vs vo).toArray = mc at hI; have H0 := Lib.hid hI; clear h
    go_enter Tryz.func52, Tryz.ntmps52
    have cF := hI.facts; (try simp only [mm] at cF)
    go_wp2_with (first
      | (refine lv 75 hI Tryz.zeroValue75 fun gx w' hI' hb => ?_; (try clear hb); refine am92 ?_; clear hI hI'; (try clear cF); intro hI cF)
      | (go_at_call 78; refine am132 ?_; intro hbl ed w4 hs; obtain ⟨rfl, hP4⟩ := hs.yes he)
      | fail)
    go_end0
    exact ⟨rfl, hP4⟩
  · refine Calls.mono (R := Thr p.2 w) ?_ (fun ed w' h => .inr ⟨he, h⟩); obtain ⟨io, ia, ib, ic⟩ := i; dsimp only at hop
    subst hop
    refine am131 ?_; intro HP h8 va vs vo hI; generalize (machL m.regs m.code va vs vo).toArray = mc at hI; have H0 := Lib.hid hI; clear h
    go_enter Tryz.func52, Tryz.ntmps52
    have cF := hI.facts; (try simp only [mm] at cF)
    go_wp2_with (first
      | (refine lv 75 hI Tryz.zeroValue75 fun gx w' hI' hb => ?_; (try clear hb); refine am92 ?_; clear hI hI'; (try clear cF); intro hI cF)
      | (go_at_call 78; refine am132 ?_; intro hbl ed w4 hs; obtain ⟨rfl, hb1⟩ := hs.no he)
      | fail)
    exact ⟨rfl, rfl, Below.trans hbl (Below.mono hb1 hbl.size)⟩
theorem c_do_call (h : StAt T w0 gm gs m i w) (hop : i.op = 18) (p : Mach × Int) (HG : ∀ w, StAt T w0 gm gs m i w → Calls Tryz.prog 80 #[.pointer (some ⟨gs, 0, none⟩)] w (Stp T w0 gm gs i w p)) :
    Calls Tryz.prog 52 #[.pointer (some ⟨gs, 0, none⟩)] w (Stp T w0 gm gs i w p) := by
  have HA := Lib.hid HG; clear HG
  by_cases he : p.2 = 0
  · refine am165 ?_; obtain ⟨io, ia, ib, ic⟩ := i; dsimp only at hop
    subst hop
    refine am131 ?_; intro HP h8 va vs vo hI; generalize (machL m.regs m.code va vs vo).toArray = mc at hI; have H0 := Lib.hid hI; clear h
    go_enter Tryz.func52, Tryz.ntmps52
    have cF := hI.facts; (try simp only [mm] at cF)
    go_wp2_with (first
      | (refine lv 75 hI Tryz.zeroValue75 fun gx w' hI' hb => ?_; (try clear hb); refine am92 ?_; clear hI hI'; (try clear cF); intro hI cF)
      | (go_at_call 80; refine am132 ?_; intro hbl ed w4 hs; obtain ⟨rfl, hP4⟩ := hs.yes he)
      | fail)
    go_end0
    exact ⟨rfl, hP4⟩
  · refine Calls.mono (R := Thr p.2 w) ?_ (fun ed w' h => .inr ⟨he, h⟩); obtain ⟨io, ia, ib, ic⟩ := i; dsimp only at hop
    subst hop
    refine am131 ?_; intro HP h8 va vs vo hI; generalize (machL m.regs m.code va vs vo).toArray = mc at hI; have H0 := Lib.hid hI; clear h
    go_enter Tryz.func52, Tryz.ntmps52
    have cF := hI.facts; (try simp only [mm] at cF)
    go_wp2_with (first
      | (refine lv 75 hI Tryz.zeroValue75 fun gx w' hI' hb => ?_; (try clear hb); refine am92 ?_; clear hI hI'; (try clear cF); intro hI cF)
      | (go_at_call 80; refine am132 ?_; intro hbl ed w4 hs; obtain ⟨rfl, hb1⟩ := hs.no he)
      | fail)
    exact ⟨rfl, rfl, Below.trans hbl (Below.mono hb1 hbl.size)⟩
theorem c_do_back (h : StAt T w0 gm gs m i w) (hop : i.op = 19) (p : Mach × Int) (HG : ∀ w, StAt T w0 gm gs m i w → Calls Tryz.prog 81 #[.pointer (some ⟨gs, 0, none⟩)] w (Stp T w0 gm gs i w p)) :
    Calls Tryz.prog 52 #[.pointer (some ⟨gs, 0, none⟩)] w (Stp T w0 gm gs i w p) := by
  have HA := Lib.hid HG; clear HG
  by_cases he : p.2 = 0
  · refine am165 ?_; obtain ⟨io, ia, ib, ic⟩ := i; dsimp only at hop
    subst hop
    refine am131 ?_; intro HP h8 va vs vo hI; generalize (machL m.regs m.code va vs vo).toArray = mc at hI; have H0 := Lib.hid hI; clear h
    go_enter Tryz.func52, Tryz.ntmps52
    have cF := hI.facts; (try simp only [mm] at cF)
    go_wp2_with (first
      | (refine lv 75 hI Tryz.zeroValue75 fun gx w' hI' hb => ?_; (try clear hb); refine am92 ?_; clear hI hI'; (try clear cF); intro hI cF)
      | (go_at_call 81; refine am132 ?_; intro hbl ed w4 hs; obtain ⟨rfl, hP4⟩ := hs.yes he)
      | fail)
    go_end0
    exact ⟨rfl, hP4⟩
  · refine Calls.mono (R := Thr p.2 w) ?_ (fun ed w' h => .inr ⟨he, h⟩); obtain ⟨io, ia, ib, ic⟩ := i; dsimp only at hop
    subst hop
    refine am131 ?_; intro HP h8 va vs vo hI; generalize (machL m.regs m.code va vs vo).toArray = mc at hI; have H0 := Lib.hid hI; clear h
    go_enter Tryz.func52, Tryz.ntmps52
    have cF := hI.facts; (try simp only [mm] at cF)
    go_wp2_with (first
      | (refine lv 75 hI Tryz.zeroValue75 fun gx w' hI' hb => ?_; (try clear hb); refine am92 ?_; clear hI hI'; (try clear cF); intro hI cF)
      | (go_at_call 81; refine am132 ?_; intro hbl ed w4 hs; obtain ⟨rfl, hb1⟩ := hs.no he)
      | fail)
    exact ⟨rfl, rfl, Below.trans hbl (Below.mono hb1 hbl.size)⟩
theorem c_do_if_no (h : StAt T w0 gm gs m i w) (hop : i.op = 9) (a : Nat) (x : Val) (ha8 : a < 8) (hia : i.a = a) (hx : m.regs[a]? = some x) (hxi : x.is = true) : Calls Tryz.prog 52 #[.pointer (some ⟨gs, 0, none⟩)] w (Thr 10 w) := by
  obtain ⟨io, ia, ib, ic⟩ := i; dsimp only at hop hia
  subst hop hia
  refine am131 ?_; intro HP h8 va vs vo hI; generalize (machL m.regs m.code va vs vo).toArray = mc at hI; have H0 := Lib.hid hI; clear h
  go_enter Tryz.func52, Tryz.ntmps52
  exact az50
theorem c_do_if0 (h : StAt T w0 gm gs m i w) (hop : i.op = 9) (a : Nat) (x : Val) (ha8 : a < 8) (hia : i.a = a) (hx : m.regs[a]? = some x) (hxi : x.is = false) (hn : x.n = 0) (p : Mach × Int) (HG : ∀ w, StAt T w0 gm gs m i w → Calls Tryz.prog 78 #[.pointer (some ⟨gs, 0, none⟩), .int .i64 (1)] w (Stp T w0 gm gs i w p)) :
    Calls Tryz.prog 52 #[.pointer (some ⟨gs, 0, none⟩)] w (Stp T w0 gm gs i w p) := by
  have HA := Lib.hid HG; clear HG; have hnb : (x.n != 0) = false := (by simp [hn]); clear hn
  exact az17
theorem c_do_if1 (h : StAt T w0 gm gs m i w) (hop : i.op = 9) (a : Nat) (x : Val) (ha8 : a < 8) (hia : i.a = a) (hx : m.regs[a]? = some x) (hxi : x.is = false) (hn : ¬ x.n = 0) (p : Mach × Int) (HG : ∀ w, StAt T w0 gm gs m i w → Calls Tryz.prog 78 #[.pointer (some ⟨gs, 0, none⟩), .int .i64 i.c] w (Stp T w0 gm gs i w p)) :
    Calls Tryz.prog 52 #[.pointer (some ⟨gs, 0, none⟩)] w (Stp T w0 gm gs i w p) := by
  have HA := Lib.hid HG; clear HG; have hnb : (x.n != 0) = true := (by simpa using hn); clear hn
  exact az17
theorem c_do_plain (h : StAt T w0 gm gs m i w) (hM : MachOk m) (hi : instOk i = true) (hpos : m.code.pos + 1 ≤ 400) (hop : ¬ (i.op = 0 ∨ i.op = 8 ∨ i.op = 9 ∨ i.op = 18 ∨ i.op = 19)) :
    Calls Tryz.prog 52 #[.pointer (some ⟨gs, 0, none⟩)] w (Stp T w0 gm gs i w (if (plainF i m).2 = 0 then (movC (plainF i m).1 1, 0) else (m, (plainF i m).2))) := by
  have HA := Lib.hid (fun w (h : StAt T w0 gm gs m i w) => c_plain h hM hi hop); have hp := plainF_pos i m; have hk := (keyOk_iff.1 hM.code).2.2.2.1
  obtain ⟨q, hq⟩ : ∃ q, plainF i m = q := ⟨_, rfl⟩
  rw [hq] at HA hp ⊢
  clear hq hM hi
  have e0 : (i.op == 0) = false := by simp; omega
  have e8 : (i.op == 8) = false := by simp; omega
  have e9 : (i.op == 9) = false := by simp; omega
  have e18 : (i.op == 18) = false := by simp; omega
  have e19 : (i.op == 19) = false := by simp; omega
  have hw : IntKind.i64.wrap (q.1.code.pos + 1) = q.1.code.pos + 1 := by rw [IntWalk.i64_left, hp]; unfold wrap64; omega
  clear hop
  by_cases he : q.2 = 0
  · rw [if_pos he]
    refine Calls.mono (R := fun ed w' => ed = .returned (.tuple #[]) ∧ StAt T w0 gm gs (movC q.1 1) i w') ?_ (fun ed w' h => .inl ⟨rfl, h⟩); obtain ⟨m', qe⟩ := q; dsimp only at he hp hw
    subst he
    obtain ⟨io, ia, ib, ic⟩ := i; dsimp only at e0 e8 e9 e18 e19; have HW := Lib.hid hw; clear hp hk hpos hw
    refine am131 ?_; intro HP h8 va vs vo hI; generalize (machL m.regs m.code va vs vo).toArray = mc at hI; have H0 := Lib.hid hI; clear h
    go_enter Tryz.func52, Tryz.ntmps52
    have cF := hI.facts; (try simp only [mm] at cF)
    go_wp2_with (first
      | (refine lv 75 hI Tryz.zeroValue75 fun gx w' hI' hb => ?_; (try clear hb); refine am92 ?_; clear hI hI'; (try clear cF); intro hI cF)
      | (go_at_call 82; have hbl := H0.out.same (ts := [_]) hI (by simp); refine (HA.out _ (HP.out.on hbl)).mono ?_; intro ed w4 hs; obtain ⟨rfl, hP4⟩ := hs.yes rfl
         clear hI hs hbl; (try clear cF); skip; clear h8 va vs vo; (try dsimp only at hP4); obtain ⟨h8', va, vs, vo, hI⟩ := hP4; unfold stR at hI
         have hst : (machL m'.regs m'.code va vs vo).toArray.setIfInBounds 59 (.int .i64 (m'.code.pos + 1)) = (machL m'.regs { m'.code with pos := m'.code.pos + 1 } va vs vo).toArray := by
           rw [List.setIfInBounds_toArray, machL_pos h8']
         have p59 : (machL m'.regs m'.code va vs vo).toArray[59]? = some (.int .i64 m'.code.pos) := by rw [List.getElem?_toArray]; exact machL_59 h8'
         have h64 : (machL m'.regs m'.code va vs vo).toArray.size = 64 := by rw [List.size_toArray]; exact machL_length h8'
         obtain ⟨md, hmd⟩ : ∃ md, (machL m'.regs m'.code va vs vo).toArray = md := ⟨_, rfl⟩
         rw [hmd] at hI p59 hst h64
         have HST := Lib.hid hst; have H64 := Lib.hid h64; clear hst hmd h64; have hw := HW.out
         have cF := hI.facts; (try simp only [mm] at cF))
      | (refine listI rfl fun K hK => wpI_store1 _ _ _ rfl hI rfl 0 rfl rfl rfl (by rw [H64.out]; decide) (by kernel_rfl) fun w' hI' => hK _ _ ?_; clear hK K; (try clear hb); refine am92 ?_; clear hI hI'; (try clear cF); intro hI cF)
      | fail)
    go_end0
    rw [HST.out] at hI
    exact ⟨rfl, h8', va, vs, vo, hI⟩
  · rw [if_neg he]
    refine Calls.mono (R := Thr q.2 w) ?_ (fun ed w' h => .inr ⟨he, h⟩); obtain ⟨io, ia, ib, ic⟩ := i; dsimp only at e0 e8 e9 e18 e19
    refine am131 ?_; intro HP h8 va vs vo hI; generalize (machL m.regs m.code va vs vo).toArray = mc at hI; have H0 := Lib.hid hI; clear h
    go_enter Tryz.func52, Tryz.ntmps52
    have cF := hI.facts; (try simp only [mm] at cF)
    go_wp2_with (first
      | (refine lv 75 hI Tryz.zeroValue75 fun gx w' hI' hb => ?_; (try clear hb); refine am92 ?_; clear hI hI'; (try clear cF); intro hI cF)
      | (go_at_call 82; refine am132 ?_; intro hbl ed w4 hs; obtain ⟨rfl, hb1⟩ := hs.no he)
      | fail)
    exact ⟨rfl, rfl, Below.trans hbl (Below.mono hb1 hbl.size)⟩
theorem c_do (h : StAt T w0 gm gs m i w) (hM : MachOk m) (hi : instOk i = true) (hpos : m.code.pos + 1 ≤ 400) : Calls Tryz.prog 52 #[.pointer (some ⟨gs, 0, none⟩)] w (Stp T w0 gm gs i w (doF i m)) := by
  have hin := instOk_in hi; have hk := keyOk_iff.1 hM.code
  by_cases h0 : i.op = 0
  · exact Stp.bad (q := m) (e := 16) (by unfold doF; rw [if_pos h0]) (by decide) (c_do_halt h h0)
  by_cases h8 : i.op = 8
  · rw [show doF i m = goF m i.c by unfold doF; rw [if_neg h0, if_pos h8]]
    exact c_do_jump h h8 _ fun w' h' => c_goes h' hM i.c (by omega)
  by_cases h9 : i.op = 9
  · have e : doF i m = if (regV m i.a).is = true then (m, 10) else goF m (if (regV m i.a).n = 0 then 1 else i.c) := by unfold doF; rw [if_neg h0, if_neg h8, if_pos h9]
    obtain ⟨a, ha', ha8, hva⟩ := reg_nat h.1 hin.2.1
    generalize regV m i.a = x at *
    cases hx : x.is
    · rw [if_neg (by simp [hx])] at e
      rw [e]
      by_cases hn : x.n = 0
      · rw [if_pos hn]
        exact c_do_if0 h h9 a x ha8 ha' hva hx hn _ fun w' h' => c_goes h' hM 1 (by omega)
      · rw [if_neg hn]
        exact c_do_if1 h h9 a x ha8 ha' hva hx hn _ fun w' h' => c_goes h' hM i.c (by omega)
    · rw [if_pos hx] at e
      exact Stp.bad e (by decide) (c_do_if_no h h9 a x ha8 ha' hva hx)
  by_cases h18 : i.op = 18
  · have e : doF i m = if (regV m i.a).is = false ∨ (regV m i.b).is = false then (m, 10) else callF m (regV m i.a).key (regV m i.b).key := by unfold doF; rw [if_neg h0, if_neg h8, if_neg h9, if_pos h18]
    exact c_do_call h h18 _ fun w' h' => c_call h' hin.2.1 hin.2.2.1 hM.deep (wrap_pos hk.2.2.2.1 (by omega)) e
  by_cases h19 : i.op = 19
  · have e : doF i m = backF m := by unfold doF; rw [if_neg h0, if_neg h8, if_neg h9, if_neg h18, if_pos h19]
    rw [e]
    refine c_do_back h h19 _ fun w' h' => ?_
    rcases List.eq_nil_or_concat m.stack with hs | ⟨xs, f, hs⟩
    · exact Stp.bad (q := m) (e := 16) (by unfold backF; rw [hs]; rfl) (by decide) (c_back_err h' hs)
    · rw [List.concat_eq_append] at hs
      exact Stp.okd (by unfold backF; rw [hs, List.getLast?_concat]) (c_back_ok h' xs f hs (by have := hM.deep; omega))
  rw [show doF i m = if (plainF i m).2 = 0 then (movC (plainF i m).1 1, 0) else (m, (plainF i m).2) by unfold doF; rw [if_neg h0, if_neg h8, if_neg h9, if_neg h18, if_neg h19]]
  exact c_do_plain h hM hi hpos (by omega)
end
end Go.Proofs.YthmpnnfejghhfaaGreatDoor
namespace Go.Proofs.YthmpnnfejghhfaaGreatDoor
open Go.RowKit
set_option maxRecDepth 100000
section
variable {T : Nat → Prop} {w0 w : World} {gm gs : Nat} {m : Mach} {i : Inst}
theorem StAt.three (h : StAt T w0 gm gs m i w) (hp : 0 < m.mem.length) : ∃ g cur cp vs vo, m.regs.length = 8 ∧
    InvT (Blks [.box gm 31 (machL m.regs m.code (.slice (some ⟨g, 0, none⟩) m.mem.length cp) vs vo).toArray, .box gs 99 #[.pointer (some ⟨gm, 0, none⟩), .int .i64 i.op, .int .i64 i.a, .int .i64 i.b, .int .i64 i.c], .box g 25 cur]) w
      [.box gm 31 (machL m.regs m.code (.slice (some ⟨g, 0, none⟩) m.mem.length cp) vs vo).toArray, .box gs 99 #[.pointer (some ⟨gm, 0, none⟩), .int .i64 i.op, .int .i64 i.a, .int .i64 i.b, .int .i64 i.c], .box g 25 cur] w ∧
    m.mem.length ≤ cp ∧ ∀ (k : Nat) v, m.mem[k]? = some v → ∀ j, j < 7 → cur[k * 7 + j]? = (encV v)[j]? := by
  obtain ⟨A, cp, vs, vo, h8, hI, hL, p61⟩ := h.memA; unfold stR at hI
  obtain ⟨g, cur, rfl, hI', hcs, hnc, hcm, hul, hus⟩ := hI.rowBox' (i := 2) (n := m.mem.length) rfl hp
  refine ⟨g, cur, cp, vs, vo, h8, InvT.enter (rc := [_, _, _]) (ts := [_, _]) hI', hnc, fun k v hv j hj => ?_⟩; have e := flat_at (enc := encV) (size := 7) (fun _ => rfl) hv hj
  obtain ⟨u, hu⟩ : ∃ u, (encV v)[j]? = some u := ⟨_, List.getElem?_eq_getElem (by exact hj)⟩
  rw [hu] at e ⊢
  exact hus _ _ e
theorem c_read_at (h : StAt T w0 gm gs m i w) (hM : MachOk m) (he : ¬ (place m.mem.length m.code 0 4).2 = 0) : Calls Tryz.prog 51 #[.pointer (some ⟨gs, 0, none⟩)] w (Thr (place m.mem.length m.code 0 4).2 w) := by
  obtain ⟨io, ia, ib, ic⟩ := i; obtain ⟨A, cp, vs, vo, h8, hI0, hL, p61⟩ := h.memA; have hI := InvT.enter (rc := [_, _]) (ts := [_, _, _]) hI0; clear hI0 hL; have hat := c_mem_At A m.mem.length cp m.code (by have := keyOk_iff.1 hM.code; constructor <;> unfold i64 <;> omega) 0 4 (by have := hM.len; unfold maxLen; omega)
  generalize place m.mem.length m.code 0 4 = r at *
  obtain ⟨ra, re⟩ := r
  dsimp only at hat he ⊢
  have p56 : (machL m.regs m.code (.slice A m.mem.length cp) vs vo).toArray[56]? = some (.int .i64 m.code.perm) := by rw [List.getElem?_toArray]; exact machL_56 h8
  have p57 : (machL m.regs m.code (.slice A m.mem.length cp) vs vo).toArray[57]? = some (.int .i64 m.code.base) := by rw [List.getElem?_toArray]; exact machL_57 h8
  have p58 : (machL m.regs m.code (.slice A m.mem.length cp) vs vo).toArray[58]? = some (.int .i64 m.code.len) := by rw [List.getElem?_toArray]; exact machL_58 h8
  have p59 : (machL m.regs m.code (.slice A m.mem.length cp) vs vo).toArray[59]? = some (.int .i64 m.code.pos) := by rw [List.getElem?_toArray]; exact machL_59 h8
  have p60 : (machL m.regs m.code (.slice A m.mem.length cp) vs vo).toArray[60]? = some (.int .i64 m.code.tag) := by rw [List.getElem?_toArray]; exact machL_60 h8
  generalize (machL m.regs m.code (.slice A m.mem.length cp) vs vo).toArray = mc at *
  have H0 := Lib.hid hI; have HAT := Lib.hid hat; clear hat h hM
  go_enter Tryz.func51, Tryz.ntmps51
  have cF := hI.facts; (try simp only [mm] at cF)
  go_wp2_with fail
  (refine wp_region_K [0, 1] (by kernel_rfl) hI fun w' hI' hHeld => ?_; (try clear hb); refine am92 ?_; clear hI hI'; (try clear cF); intro hI cF)
  refine am95 ?_; refine am146 ?_; intro K hK; (go_simp; refine (HAT.out _).mono ?_; refine am97 ?_; clear hK K hI; (try clear cF); intro w' hHeld hI cF); refine am115 ?_; refine wpAnyH_done (by kernel_rfl) ?_ _; clear hHeld
  go_wp2_with (first | (go_at_call 76; refine (c_must_err re he _).mono ?_; rintro ed w' ⟨rfl, rfl⟩) | fail)
  exact ⟨rfl, rfl, H0.out.same (ts := []) hI (by simp)⟩
theorem c_read_form (h : StAt T w0 gm gs m i w) (hM : MachOk m) (k : Nat) (v : Val) (hp : place m.mem.length m.code 0 4 = ((k : Int), 0)) (hv : m.mem[k]? = some v) (hvi : v.is = true) : Calls Tryz.prog 51 #[.pointer (some ⟨gs, 0, none⟩)] w (Thr 5 w) := by
  obtain ⟨io, ia, ib, ic⟩ := i; refine am129 ?_; intro hkl HP g cur cp vs vo h8 hI hnc hq q0 q1 hat
  rw [hp] at hat
  dsimp only at hat
  have p56 : (machL m.regs m.code (.slice (some ⟨g, 0, none⟩) m.mem.length cp) vs vo).toArray[56]? = some (.int .i64 m.code.perm) := by rw [List.getElem?_toArray]; exact machL_56 h8
  have p57 : (machL m.regs m.code (.slice (some ⟨g, 0, none⟩) m.mem.length cp) vs vo).toArray[57]? = some (.int .i64 m.code.base) := by rw [List.getElem?_toArray]; exact machL_57 h8
  have p58 : (machL m.regs m.code (.slice (some ⟨g, 0, none⟩) m.mem.length cp) vs vo).toArray[58]? = some (.int .i64 m.code.len) := by rw [List.getElem?_toArray]; exact machL_58 h8
  have p59 : (machL m.regs m.code (.slice (some ⟨g, 0, none⟩) m.mem.length cp) vs vo).toArray[59]? = some (.int .i64 m.code.pos) := by rw [List.getElem?_toArray]; exact machL_59 h8
  have p60 : (machL m.regs m.code (.slice (some ⟨g, 0, none⟩) m.mem.length cp) vs vo).toArray[60]? = some (.int .i64 m.code.tag) := by rw [List.getElem?_toArray]; exact machL_60 h8
  have p61 : (machL m.regs m.code (.slice (some ⟨g, 0, none⟩) m.mem.length cp) vs vo).toArray[61]? = some (.slice (some ⟨g, 0, none⟩) m.mem.length cp) := by rw [List.getElem?_toArray]; exact machL_61 h8
  generalize (machL m.regs m.code (.slice (some ⟨g, 0, none⟩) m.mem.length cp) vs vo).toArray = mc at *
  have H0 := Lib.hid hI; have HAT := Lib.hid hat; have hk1 : (k : Int) < m.mem.length := (by omega); clear hat h hM hp hq
  rw [hvi] at q0
  go_enter Tryz.func51, Tryz.ntmps51
  have cF := hI.facts; (try simp only [mm] at cF)
  go_wp2_with fail
  (refine wp_region_K [0, 1] (by kernel_rfl) hI fun w' hI' hHeld => ?_; (try clear hb); refine am92 ?_; clear hI hI'; (try clear cF); intro hI cF)
  refine am95 ?_; refine am146 ?_; intro K hK; (go_simp; refine (HAT.out _).mono ?_; refine am97 ?_; clear hK K hI; (try clear cF); intro w' hHeld hI cF); refine am115 ?_; refine wpAnyH_done (by kernel_rfl) ?_ _; clear hHeld
  go_wp2_with (first
    | (go_at_call 76; refine (c_must_ok _).mono ?_; rintro ed w' ⟨rfl, rfl⟩)
    | (go_at_call 76; refine (c_must_err 5 (by decide) _).mono ?_; rintro ed w' ⟨rfl, rfl⟩)
    | fail)
  exact ⟨rfl, rfl, H0.out.same (ts := []) hI (by simp)⟩
theorem c_read_no (h : StAt T w0 gm gs m i w) (hM : MachOk m) (k : Nat) (v : Val) (hp : place m.mem.length m.code 0 4 = ((k : Int), 0)) (hv : m.mem[k]? = some v) (hvi : v.is = false) (hn : i64 v.n) (hE : Env w) (he : ¬ (readF v.n).2 = 0) : Calls Tryz.prog 51 #[.pointer (some ⟨gs, 0, none⟩)] w fun ed w' => ed = .panicked (thrown (readF v.n).2) ∧ ∃ j, StAt T w0 gm gs m j w' := by
  have hR := fun w h => c_inst_Read v.n w h hn; obtain ⟨io, ia, ib, ic⟩ := i; refine am129 ?_; intro hkl HP g cur cp vs vo h8 hI hnc hq q0 q1 hat
  rw [hp] at hat
  dsimp only at hat
  have p56 : (machL m.regs m.code (.slice (some ⟨g, 0, none⟩) m.mem.length cp) vs vo).toArray[56]? = some (.int .i64 m.code.perm) := by rw [List.getElem?_toArray]; exact machL_56 h8
  have p57 : (machL m.regs m.code (.slice (some ⟨g, 0, none⟩) m.mem.length cp) vs vo).toArray[57]? = some (.int .i64 m.code.base) := by rw [List.getElem?_toArray]; exact machL_57 h8
  have p58 : (machL m.regs m.code (.slice (some ⟨g, 0, none⟩) m.mem.length cp) vs vo).toArray[58]? = some (.int .i64 m.code.len) := by rw [List.getElem?_toArray]; exact machL_58 h8
  have p59 : (machL m.regs m.code (.slice (some ⟨g, 0, none⟩) m.mem.length cp) vs vo).toArray[59]? = some (.int .i64 m.code.pos) := by rw [List.getElem?_toArray]; exact machL_59 h8
  have p60 : (machL m.regs m.code (.slice (some ⟨g, 0, none⟩) m.mem.length cp) vs vo).toArray[60]? = some (.int .i64 m.code.tag) := by rw [List.getElem?_toArray]; exact machL_60 h8
  have p61 : (machL m.regs m.code (.slice (some ⟨g, 0, none⟩) m.mem.length cp) vs vo).toArray[61]? = some (.slice (some ⟨g, 0, none⟩) m.mem.length cp) := by rw [List.getElem?_toArray]; exact machL_61 h8
  generalize (machL m.regs m.code (.slice (some ⟨g, 0, none⟩) m.mem.length cp) vs vo).toArray = mc at *
  have H0 := Lib.hid hI; have HAT := Lib.hid hat; have hk1 : (k : Int) < m.mem.length := (by omega); clear hat h hM hp hq
  rw [hvi] at q0
  generalize readF v.n = r at *
  obtain ⟨ri, re⟩ := r
  dsimp only at hR he ⊢
  have HR := Lib.hid hR; have HE := Lib.hid hE; clear hR hE
  go_enter Tryz.func51, Tryz.ntmps51
  have cF := hI.facts; (try simp only [mm] at cF)
  go_wp2_with fail
  (refine wp_region_K [0, 1] (by kernel_rfl) hI fun w' hI' hHeld => ?_; (try clear hb); refine am92 ?_; clear hI hI'; (try clear cF); intro hI cF)
  refine am95 ?_; refine am146 ?_; intro K hK; (go_simp; refine (HAT.out _).mono ?_; refine am97 ?_; clear hK K hI; (try clear cF); intro w' hHeld hI cF); refine am115 ?_; refine wpAnyH_done (by kernel_rfl) ?_ _; clear hHeld
  go_wp2_with (first
    | (go_at_call 76; refine (c_must_ok _).mono ?_; rintro ed w' ⟨rfl, rfl⟩)
    | (go_at_call 76; refine (c_must_err re he _).mono ?_; rintro ed w' ⟨rfl, rfl⟩)
    | (go_at_call 77; have hbl := H0.out.same (ts := []) hI (by simp); refine (HR.out _ (HE.out.below hbl)).mono ?_; rintro ed w1 ⟨rfl, hb1⟩; have hI' := hI.on hb1; clear hbl; (try clear hb); refine am92 ?_; clear hI hI'; (try clear cF); intro hI cF)
    | (have hPs := HP.out.on (H0.out.same (ts := []) hI (by simp)); clear hI; obtain ⟨h8', va', vs', vo', hI⟩ := hPs; unfold stR at hI; (refine listI rfl fun K hK => wpI_storeS _ _ _ rfl hI rfl 1 rfl rfl rfl (by simp) (by kernel_rfl) (by simp [Value.oneCell']) fun w' hI' => hK _ _ ?_; clear hK K; (try clear hb); refine am92 ?_; clear hI hI'; (try clear cF); intro hI cF))
    | fail)
  refine ⟨rfl, rfl, ⟨ri.op, ri.a, ri.b, ri.c⟩, h8', va', vs', vo', hI⟩
theorem c_read_ok (h : StAt T w0 gm gs m i w) (hM : MachOk m) (k : Nat) (v : Val) (hp : place m.mem.length m.code 0 4 = ((k : Int), 0)) (hv : m.mem[k]? = some v) (hvi : v.is = false) (hn : i64 v.n) (hE : Env w) (he : (readF v.n).2 = 0) : Calls Tryz.prog 51 #[.pointer (some ⟨gs, 0, none⟩)] w fun ed w' => ed = .returned (.tuple #[]) ∧ StAt T w0 gm gs m (readF v.n).1 w' := by
  have hR := fun w h => c_inst_Read v.n w h hn; obtain ⟨io, ia, ib, ic⟩ := i; refine am129 ?_; intro hkl HP g cur cp vs vo h8 hI hnc hq q0 q1 hat
  rw [hp] at hat
  dsimp only at hat
  have p56 : (machL m.regs m.code (.slice (some ⟨g, 0, none⟩) m.mem.length cp) vs vo).toArray[56]? = some (.int .i64 m.code.perm) := by rw [List.getElem?_toArray]; exact machL_56 h8
  have p57 : (machL m.regs m.code (.slice (some ⟨g, 0, none⟩) m.mem.length cp) vs vo).toArray[57]? = some (.int .i64 m.code.base) := by rw [List.getElem?_toArray]; exact machL_57 h8
  have p58 : (machL m.regs m.code (.slice (some ⟨g, 0, none⟩) m.mem.length cp) vs vo).toArray[58]? = some (.int .i64 m.code.len) := by rw [List.getElem?_toArray]; exact machL_58 h8
  have p59 : (machL m.regs m.code (.slice (some ⟨g, 0, none⟩) m.mem.length cp) vs vo).toArray[59]? = some (.int .i64 m.code.pos) := by rw [List.getElem?_toArray]; exact machL_59 h8
  have p60 : (machL m.regs m.code (.slice (some ⟨g, 0, none⟩) m.mem.length cp) vs vo).toArray[60]? = some (.int .i64 m.code.tag) := by rw [List.getElem?_toArray]; exact machL_60 h8
  have p61 : (machL m.regs m.code (.slice (some ⟨g, 0, none⟩) m.mem.length cp) vs vo).toArray[61]? = some (.slice (some ⟨g, 0, none⟩) m.mem.length cp) := by rw [List.getElem?_toArray]; exact machL_61 h8
  generalize (machL m.regs m.code (.slice (some ⟨g, 0, none⟩) m.mem.length cp) vs vo).toArray = mc at *
  have H0 := Lib.hid hI; have HAT := Lib.hid hat; have hk1 : (k : Int) < m.mem.length := (by omega); clear hat h hM hp hq
  rw [hvi] at q0
  generalize readF v.n = r at *
  obtain ⟨ri, re⟩ := r
  dsimp only at hR he ⊢
  subst he
  have HR := Lib.hid hR; have HE := Lib.hid hE; clear hR hE
  go_enter Tryz.func51, Tryz.ntmps51
  have cF := hI.facts; (try simp only [mm] at cF)
  go_wp2_with fail
  (refine wp_region_K [0, 1] (by kernel_rfl) hI fun w' hI' hHeld => ?_; (try clear hb); refine am92 ?_; clear hI hI'; (try clear cF); intro hI cF)
  refine am95 ?_; refine am146 ?_; intro K hK; (go_simp; refine (HAT.out _).mono ?_; refine am97 ?_; clear hK K hI; (try clear cF); intro w' hHeld hI cF); refine am115 ?_; refine wpAnyH_done (by kernel_rfl) ?_ _; clear hHeld
  go_wp2_with (first
    | (go_at_call 76; refine (c_must_ok _).mono ?_; rintro ed w' ⟨rfl, rfl⟩)
    | (go_at_call 77; have hbl := H0.out.same (ts := []) hI (by simp); refine (HR.out _ (HE.out.below hbl)).mono ?_; rintro ed w1 ⟨rfl, hb1⟩; have hI' := hI.on hb1; clear hbl; (try clear hb); refine am92 ?_; clear hI hI'; (try clear cF); intro hI cF)
    | (have hPs := HP.out.on (H0.out.same (ts := []) hI (by simp)); clear hI; obtain ⟨h8', va', vs', vo', hI⟩ := hPs; unfold stR at hI; (refine listI rfl fun K hK => wpI_storeS _ _ _ rfl hI rfl 1 rfl rfl rfl (by simp) (by kernel_rfl) (by simp [Value.oneCell']) fun w' hI' => hK _ _ ?_; clear hK K; (try clear hb); refine am92 ?_; clear hI hI'; (try clear cF); intro hI cF))
    | fail)
  go_end0
  exact ⟨rfl, h8', va', vs', vo', hI⟩
end
end Go.Proofs.YthmpnnfejghhfaaGreatDoor
