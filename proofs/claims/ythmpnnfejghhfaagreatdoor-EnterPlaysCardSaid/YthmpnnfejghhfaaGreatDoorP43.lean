/- What the parts say: One step in place: what is thrown is caught. Conditions: the machine is one that may be; Go's table of white space holds what it was laid with. -/
import Derived.Test.YthmpnnfejghhfaaGreatDoorP38
import Derived.Defers
import Derived.Recover
import Derived.Test.YthmpnnfejghhfaaGreatDoorP12
import Derived.Test.YthmpnnfejghhfaaGreatDoorP14
set_option linter.unusedVariables false
set_option linter.unusedSimpArgs false
namespace Go.Proofs.YthmpnnfejghhfaaGreatDoor
theorem az54 {P : Prop} (h : P := by
  have hbx := hI.box (i := 1) rfl; (refine am126 ?_)
  exact ⟨_, rfl, MachV.zero _ _, hI.below⟩) : P := h
theorem am178 {P Q : Prop} (k : Q) (h : Hq Q → P := by (intro k_; have hI2 := hI.stp (ge := ge); have hS : StAt (Blks (stR gm gs va vs vo m instZ)) w' gm gs m instZ w' := ⟨h8, va, vs, vo, InvT.enter hI2⟩; refine (c_read hS HM.out HM1.out).mono ?_; revert hS; revert hI2; exact k_.out)) : P := h ⟨k⟩
theorem am189 {P Q : Prop} (k : Q) (h : Hq Q → P := by (intro k_; have HM := Lib.hid hm; have hsz := hm.size; have HE := Lib.hid hE; revert HE; revert hsz; revert HM; exact k_.out)) : P := h ⟨k⟩
theorem am195 {P Q : Prop} (k : Q) (h : Hq Q → P := by (intro k_; have hP := hI.perm (List.Perm.cons _ (List.perm_append_comm (l₁ := [_]))); have hI2 := InvT.cast hP (rs' := mR _ va vs vo m ++ [_]) rfl; refine (c_One (T := Blks (mR _ va vs vo m)) ⟨h8, va, vs, vo, InvT.enter hI2⟩ HOK.out (HE.out.inv hI)).mono ?_; revert hI2; revert hP; exact k_.out)) : P := h ⟨k⟩
open Go.RowKit
set_option maxRecDepth 100000
section
variable {T : Nat → Prop} {w0 w : World} {gm gs : Nat} {m : Mach} {i : Inst}
def Fet (T : Nat → Prop) (w0 : World) (gm gs : Nat) (m : Mach) : Ending → World → Prop := fun ed w' =>
  ((fetchF m).2 = 0 ∧ ed = .returned (.tuple #[]) ∧ StAt T w0 gm gs m (fetchF m).1 w') ∨ (¬ (fetchF m).2 = 0 ∧ ed = .panicked (thrown (fetchF m).2) ∧ ∃ j, StAt T w0 gm gs m j w')
theorem c_read (h : StAt T w0 gm gs m i w) (hM : MachOk m) (hE : Env w) : Calls Tryz.prog 51 #[.pointer (some ⟨gs, 0, none⟩)] w (Fet T w0 gm gs m) := by
  by_cases hp : (place m.mem.length m.code 0 4).2 = 0
  · obtain ⟨k, hk, hkl, hk4, hpl⟩ := place_nat (by simpa using hp)
    obtain ⟨v, hv⟩ : ∃ v, m.mem[k]? = some v := ⟨_, List.getElem?_eq_getElem hkl⟩
    have hvE := hM.mem v (List.mem_of_getElem? hv)
    have e : fetchF m = if v.is = true then (instZ, 5) else readF v.n := by
      unfold fetchF; dsimp only
      rw [hpl]
      dsimp only
      rw [if_neg (by simp), List.getD_eq_getElem?_getD, Int.toNat_natCast, hv]
      rfl
    cases hvi : v.is
    · have hn : i64 v.n := by have := (valE_not hvE hvi).1; unfold i64; omega
      rw [if_neg (by simp [hvi])] at e
      by_cases he : (readF v.n).2 = 0
      · exact (c_read_ok h hM k v hpl hv hvi hn hE he).mono fun ed w' h => .inl ⟨by rw [e]; exact he, h.1, by rw [e]; exact h.2⟩
      · exact (c_read_no h hM k v hpl hv hvi hn hE he).mono fun ed w' h => .inr ⟨by rw [e]; exact he, by rw [e]; exact h.1, h.2⟩
    · rw [if_pos hvi] at e
      exact (c_read_form h hM k v hpl hv hvi).mono fun ed w' h' => .inr ⟨by rw [e]; decide, by rw [e]; exact h'.1, i, h.on h'.2⟩
  · have e : fetchF m = (instZ, (place m.mem.length m.code 0 4).2) := by
      unfold fetchF; dsimp only
      rw [if_pos hp]
    exact (c_read_at h hM hp).mono fun ed w' h' => .inr ⟨by rw [e]; exact hp, by rw [e]; exact h'.1, i, h.on h'.2⟩
theorem c_catch_idle (p : Addr) (w : World) : CallsD Tryz.prog 50 #[.pointer (some p)] .returning w fun e u' w' => e = .returned (.tuple #[]) ∧ u' = .returning ∧ w' = w := by
  refine callsD_of_wpS Tryz.func50 rfl fun c₀ cs hu => ?_
  apply wpS_seq
  apply wpS_region
  simp [wpOpsS, go_sem, recoverD, hu, Tryz.ntmps50, Exit.thenS]
  refine wpS_of_wp ?_
  go_wp2
  cases c₀
  simp_all [bodyPostS, results, Tryz.results50, Exit.inBlock, Exit.then]
theorem c_catch {rs : List Res} (ge : Nat) (n : Nat) (x : Value) (hI : InvT T w0 rs w) (hn : rs[n]? = some (.box ge 32 #[x])) (e : Int) :
    CallsD Tryz.prog 50 #[.pointer (some ⟨ge, 0, none⟩)] (.panicking (thrown e)) w fun ed u' w' => ed = .returned (.tuple #[]) ∧ u' = .panicking [{ v := .iface 96 (.agg #[.int .i64 e]), recovered := true }] ∧ ∃ ts, InvT T w0 (rs.set n (.box ge 32 #[.int .i64 e]) ++ ts) w' := by
  refine callsD_of_wpS Tryz.func50 rfl fun c₀ cs hu => ?_
  apply wpS_seq
  apply wpS_region
  simp [wpOpsS, go_sem, recoverD, hu, thrown, Tryz.ntmps50, Exit.thenS]
  refine wpS_of_wp ?_; simp only [Array.replicate_succ, Array.replicate_zero, List.push_toArray, List.append_toArray, List.nil_append, List.cons_append, Act.put, List.setIfInBounds_toArray, List.set_cons_zero, List.set_cons_succ]
  have hta : ∀ (v : Value) (w : World), (Instr.typeAssert (.iface 96 v) 20 96 true).run Tryz.prog w = .ok (.tuple #[v, .bool true]) w := fun v w => by kernel_rfl
  go_wp2_with (first | ((refine lv 96 hI Tryz.zeroValue96 fun gx w' hI' hb => ?_; (try replace HM1 := Lib.hid (HM1.out.grow hb)); (try clear hb); refine am92 ?_; clear hI hI'; (try clear cF); intro hI cF); have hcf := hI.cell (i := rs.length) (by rw [List.getElem?_append_right (Nat.le_refl _), Nat.sub_self]; rfl)) | (refine listI rfl fun K hK => wpI_store1 _ _ _ rfl hI rfl n (by rw [List.getElem?_append_left (getElem?_lt hn)]; exact hn) rfl rfl (by simp) (by kernel_rfl) fun w' hI' => hK _ _ ?_; clear hK K) | fail)
  rw [List.set_append_left _ _ (getElem?_lt hn)] at hI'
  cases c₀
  simp_all [bodyPostS, results, Tryz.results50, Exit.inBlock, Exit.then]
  exact ⟨rfl, _, hI'⟩
theorem oneF_err (he : ¬ (oneF m).2 = 0) : (oneF m).1 = m := by
  have hr : ∀ r (x : Key × Int), ¬ (retF m r x).2 = 0 → (retF m r x).1 = m := fun r x h => by
    unfold retF at h ⊢; split at h
    · exact absurd rfl h
    · rename_i h0; rw [if_neg h0]
  have hg : ∀ d, ¬ (goF m d).2 = 0 → (goF m d).1 = m := fun d h => by
    unfold goF at h ⊢; split at h
    · exact absurd rfl h
    · rename_i h0; rw [if_neg h0]
  unfold oneF at he ⊢
  split at he
  · rename_i h0
    rw [if_pos h0]
    obtain ⟨p, hp⟩ : ∃ p, doF (fetchF m).1 m = p := ⟨_, rfl⟩
    rw [hp] at he ⊢
    unfold doF at hp
    split at hp
    · subst hp; rfl
    split at hp
    · subst hp; exact hg _ he
    split at hp
    · split at hp
      · subst hp; rfl
      · subst hp; exact hg _ he
    split at hp
    · split at hp
      · subst hp; rfl
      · unfold callF at hp
        split at hp
        · subst hp; rfl
        split at hp
        · subst hp; rfl
        split at hp
        · subst hp; rfl
        · subst hp; exact absurd rfl he
    split at hp
    · unfold backF at hp
      split at hp
      · subst hp; rfl
      · subst hp; exact absurd rfl he
    split at hp
    · subst hp; exact absurd rfl he
    · subst hp; rfl
  · rename_i h0
    rw [if_neg h0]
def mR (gm : Nat) (va vs vo : Value) (m : Mach) : List Res :=
  [.box gm 31 (machL m.regs m.code va vs vo).toArray,
   .row 25 7 va m.mem.length (m.mem.flatMap encV), .row 73 12 vs m.stack.length (m.stack.flatMap encF), .row 3 1 vo m.out.length (m.out.flatMap encI)]
def MAt (T : Nat → Prop) (w0 : World) (gm : Nat) (m : Mach) (w : World) : Prop := m.regs.length = 8 ∧ ∃ va vs vo, InvT T w0 (mR gm va vs vo m) w
theorem Env.grow {w w' : World} (h : Env w) (hb : Below w.heap.size w w') : Env w' := h.below hb
theorem MAt.of {va vs vo : Value} {ts : List Res} (h8 : m.regs.length = 8) (hI : InvT T w0 (stR gm gs va vs vo m i ++ ts) w) : MAt T w0 gm m w := by
  refine ⟨h8, va, vs, vo, ?_⟩; unfold stR at hI; have h1 := InvT.cast hI (rs' := .box gm 31 (machL m.regs m.code va vs vo).toArray :: .box gs 99 #[.pointer (some ⟨gm, 0, none⟩), .int .i64 i.op, .int .i64 i.a, .int .i64 i.b, .int .i64 i.c] :: ([.row 25 7 va m.mem.length (m.mem.flatMap encV), .row 73 12 vs m.stack.length (m.stack.flatMap encF), .row 3 1 vo m.out.length (m.out.flatMap encI)] ++ ts)) rfl; have h2 := h1.perm (List.Perm.cons _ List.perm_middle.symm)
  exact h2.first (mR gm va vs vo m) (.box gs 99 #[.pointer (some ⟨gm, 0, none⟩), .int .i64 i.op, .int .i64 i.a, .int .i64 i.b, .int .i64 i.c] :: ts) rfl
theorem one_panic {va vs vo : Value} {ge : Nat} {x : Value} (h8 : m.regs.length = 8) (hI : InvT T w0 (stR gm gs va vs vo m i ++ [.box ge 32 #[x]]) w) (e : Int) (tmps : Array Value) (ht : tmps[2]? = some (.pointer (some ⟨ge, 0, none⟩))) {R : Ending → World → Prop} (hR : ∀ w', MAt T w0 gm m w' → R (.returned (.int .i64 e)) w') :
    bodyPostD Tryz.prog Tryz.f29 R (Exit.panic (thrown e)) { tmps := tmps, defers := [{ target := Target.fn (Fn.func 50) #[.pointer (some ⟨ge, 0, none⟩)], args := #[] }] } w := by
  refine leaves_cons (f := 50) (args := #[.pointer (some ⟨ge, 0, none⟩)]) (by simp) (by simp [go_sem]) ?_; refine (c_catch ge 5 _ hI rfl e).mono ?_
  rintro ed u' w' ⟨rfl, rfl, ts, hI'⟩
  have hM := hR w' (MAt.of (ts := [.box ge 32 #[.int .i64 e]] ++ ts) h8 hI'); have hc := hI'.cell (i := 5) rfl 0; simp only [Leaves, settle, List.dropWhile_nil]; refine ⟨_, ?_, hM⟩; unfold results
  simp [Tryz.results29, go_sem, ht, hc]
theorem one_return {va vs vo : Value} {ge : Nat} (h8 : m.regs.length = 8) (hI : InvT T w0 (stR gm gs va vs vo m i ++ [.box ge 32 #[.int .i64 0]]) w) (tmps : Array Value) (ht : tmps[2]? = some (.pointer (some ⟨ge, 0, none⟩))) {R : Ending → World → Prop} (hR : ∀ w', MAt T w0 gm m w' → R (.returned (.int .i64 0)) w') :
    bodyPostD Tryz.prog Tryz.f29 R Exit.ret { tmps := tmps, defers := [{ target := Target.fn (Fn.func 50) #[.pointer (some ⟨ge, 0, none⟩)], args := #[] }] } w := by
  refine leaves_cons (f := 50) (args := #[.pointer (some ⟨ge, 0, none⟩)]) (by simp) (by simp [go_sem]) ?_; refine (c_catch_idle ⟨ge, 0, none⟩ _).mono ?_
  rintro ed u' w' ⟨rfl, rfl, rfl⟩
  have hM := hR _ (MAt.of h8 hI); have hc := hI.cell (i := 5) rfl 0; simp only [Leaves, settle]; refine ⟨_, ?_, hM⟩; unfold results
  simp [Tryz.results29, go_sem, ht, hc]
theorem InvT.stp {ge : Nat} {a s r1 r2 r3 e : Res} (hI : InvT T w0 [a, r1, r2, r3, e, s] w) : InvT T w0 ([a, s, r1, r2, r3] ++ [e]) w :=
  hI.perm ((List.perm_middle (l₁ := [r1, r2, r3, e]) (l₂ := [])).cons _)
set_option maxHeartbeats 1000000 in
theorem c_One (h : MAt T w0 gm m w) (hM : MachOk m) (hE : Env w) : Calls Tryz.prog 29 #[.pointer (some ⟨gm, 0, none⟩)] w fun ed w' => ed = .returned (.int .i64 (oneF m).2) ∧ MAt T w0 gm (oneF m).1 w' := by
  have hmf : ∀ (fn : Fn) (first cap : Array Value) (w : World), (Instr.makeFunc fn first cap).run Tryz.prog w = .ok (.func fn first cap) w := fun _ _ _ _ => rfl; obtain ⟨h8, va, vs, vo, hI⟩ := h; unfold mR at hI; have HM := Lib.hid hM; have HM1 := Lib.hid hE; clear hM hE
  obtain ⟨mc, hmc⟩ : ∃ mc, (machL m.regs m.code va vs vo).toArray = mc := ⟨_, rfl⟩
  rw [hmc] at hI
  have HMC := Lib.hid hmc; clear hmc
  by_cases hf : (fetchF m).2 = 0
  · by_cases hd : (doF (fetchF m).1 m).2 = 0
    · have e1 : (oneF m).2 = 0 := by unfold oneF; rw [if_pos hf]; exact hd
      have e2 : (oneF m).1 = (doF (fetchF m).1 m).1 := by unfold oneF; rw [if_pos hf]
      have HF := Lib.hid hf; have HD := Lib.hid hd; clear hf hd
      go_enter_defers Tryz.func29, Tryz.ntmps29
      go_wp2_with (first
        | ((refine listI rfl fun K hK => wpI_alloc 32 rfl hI Tryz.zeroValue32 (cs := #[.int .i64 0]) (by first | rfl | kernel_rfl) fun gx w' hI' hb => hK _ _ ?_; clear hK K; (try replace HM1 := Lib.hid (HM1.out.grow hb)); (try clear hb); refine am92 ?_; clear hI hI'; (try clear cF); intro hI cF); obtain ⟨ge, rfl⟩ : ∃ y, y = gx := ⟨_, rfl⟩)
        | ((first | (refine listI rfl fun K hK => wpI_box _ _ rfl hI rfl fun gx w' hI' hb => hK _ _ ?_; clear hK K; (try replace HM1 := Lib.hid (HM1.out.grow hb)); (try clear hb); refine am92 ?_; clear hI hI'; (try clear cF); intro hI cF) | (refine listI rfl fun K hK => wpI_box1 _ _ rfl hI rfl rfl fun gx w' hI' hb => hK _ _ ?_; clear hK K; (try replace HM1 := Lib.hid (HM1.out.grow hb)); (try clear hb); refine am92 ?_; clear hI hI'; (try clear cF); intro hI cF)); obtain ⟨gs, rfl⟩ : ∃ y, y = gx := ⟨_, rfl⟩)
        | (go_at_call 51
           rw [← HMC.out] at hI
           refine am178 ?_; intro hI2 hS; intro ed w2 hF
           obtain ⟨rfl, h2⟩ : ed = .returned (.tuple #[]) ∧ StAt (Blks (stR gm gs va vs vo m instZ)) w' gm gs m (fetchF m).1 w2 := by
             rcases hF with h | h
             · exact h.2
             · exact absurd HF.out h.1
           clear hF hS hI)
        | (go_at_call 52
           refine (c_do h2 HM.out (fetchF_ok HF.out).1 (fetchF_ok HF.out).2.2.2).mono ?_; intro ed w3 hs
           obtain ⟨rfl, h3⟩ := hs.yes HD.out
           obtain ⟨h8', va', vs', vo', hI3⟩ := h3; have hI := hI2.frame hI3
           clear hs hI2 hI3 h2)
        | (refine listI rfl fun K hK => wpI_store1 _ _ _ rfl hI rfl 5 rfl rfl rfl (by simp) (by kernel_rfl) fun w' hI' => hK _ _ ?_; clear hK K; (try replace HM1 := Lib.hid (HM1.out.grow hb)); (try clear hb); refine am92 ?_; clear hI hI'; (try clear cF); intro hI cF)
        | fail)
      exact one_return h8' hI _ rfl fun w' hM => ⟨by rw [e1], by rw [e2]; exact hM⟩
    · have e1 : (oneF m).2 = (doF (fetchF m).1 m).2 := by unfold oneF; rw [if_pos hf]
      have e2 : (oneF m).1 = m := oneF_err (by rw [e1]; exact hd); have HF := Lib.hid hf; have HD := Lib.hid hd; clear hf hd
      go_enter_defers Tryz.func29, Tryz.ntmps29
      go_wp2_with (first
        | ((refine listI rfl fun K hK => wpI_alloc 32 rfl hI Tryz.zeroValue32 (cs := #[.int .i64 0]) (by first | rfl | kernel_rfl) fun gx w' hI' hb => hK _ _ ?_; clear hK K; (try replace HM1 := Lib.hid (HM1.out.grow hb)); (try clear hb); refine am92 ?_; clear hI hI'; (try clear cF); intro hI cF); obtain ⟨ge, rfl⟩ : ∃ y, y = gx := ⟨_, rfl⟩)
        | ((first | (refine listI rfl fun K hK => wpI_box _ _ rfl hI rfl fun gx w' hI' hb => hK _ _ ?_; clear hK K; (try replace HM1 := Lib.hid (HM1.out.grow hb)); (try clear hb); refine am92 ?_; clear hI hI'; (try clear cF); intro hI cF) | (refine listI rfl fun K hK => wpI_box1 _ _ rfl hI rfl rfl fun gx w' hI' hb => hK _ _ ?_; clear hK K; (try replace HM1 := Lib.hid (HM1.out.grow hb)); (try clear hb); refine am92 ?_; clear hI hI'; (try clear cF); intro hI cF)); obtain ⟨gs, rfl⟩ : ∃ y, y = gx := ⟨_, rfl⟩)
        | (go_at_call 51
           rw [← HMC.out] at hI
           refine am178 ?_; intro hI2 hS; intro ed w2 hF
           obtain ⟨rfl, h2⟩ : ed = .returned (.tuple #[]) ∧ StAt (Blks (stR gm gs va vs vo m instZ)) w' gm gs m (fetchF m).1 w2 := by
             rcases hF with h | h
             · exact h.2
             · exact absurd HF.out h.1
           clear hF hS hI)
        | (go_at_call 52
           refine (c_do h2 HM.out (fetchF_ok HF.out).1 (fetchF_ok HF.out).2.2.2).mono ?_; intro ed w3 hs
           obtain ⟨rfl, hb3⟩ := hs.no HD.out
           obtain ⟨h8', va', vs', vo', hI3⟩ := h2.on hb3; have hI := hI2.frame hI3
           clear hs hI2 hI3 h2)
        | fail)
      exact one_panic h8' hI _ _ rfl fun w' hM => ⟨by rw [e1], by rw [e2]; exact hM⟩
  · have e1 : (oneF m).2 = (fetchF m).2 := by unfold oneF; rw [if_neg hf]
    have e2 : (oneF m).1 = m := oneF_err (by rw [e1]; exact hf); have HF := Lib.hid hf; clear hf
    go_enter_defers Tryz.func29, Tryz.ntmps29
    go_wp2_with (first
      | ((refine listI rfl fun K hK => wpI_alloc 32 rfl hI Tryz.zeroValue32 (cs := #[.int .i64 0]) (by first | rfl | kernel_rfl) fun gx w' hI' hb => hK _ _ ?_; clear hK K; (try replace HM1 := Lib.hid (HM1.out.grow hb)); (try clear hb); refine am92 ?_; clear hI hI'; (try clear cF); intro hI cF); obtain ⟨ge, rfl⟩ : ∃ y, y = gx := ⟨_, rfl⟩)
      | ((first | (refine listI rfl fun K hK => wpI_box _ _ rfl hI rfl fun gx w' hI' hb => hK _ _ ?_; clear hK K; (try replace HM1 := Lib.hid (HM1.out.grow hb)); (try clear hb); refine am92 ?_; clear hI hI'; (try clear cF); intro hI cF) | (refine listI rfl fun K hK => wpI_box1 _ _ rfl hI rfl rfl fun gx w' hI' hb => hK _ _ ?_; clear hK K; (try replace HM1 := Lib.hid (HM1.out.grow hb)); (try clear hb); refine am92 ?_; clear hI hI'; (try clear cF); intro hI cF)); obtain ⟨gs, rfl⟩ : ∃ y, y = gx := ⟨_, rfl⟩)
      | (go_at_call 51
         rw [← HMC.out] at hI
         refine am178 ?_; intro hI2 hS; intro ed w2 hF
         obtain ⟨rfl, j, h2⟩ : ed = .panicked (thrown (fetchF m).2) ∧ ∃ j, StAt (Blks (stR gm gs va vs vo m instZ)) w' gm gs m j w2 := by
           rcases hF with h | h
           · exact absurd h.1 HF.out
           · exact h.2
         obtain ⟨h8', va', vs', vo', hI3⟩ := h2; have hI := hI2.frame hI3
         clear hF hS hI2 hI3)
      | fail)
    exact one_panic h8' hI _ _ rfl fun w' hM => ⟨by rw [e1], by rw [e2]; exact hM⟩
end
end Go.Proofs.YthmpnnfejghhfaaGreatDoor
namespace Go.Proofs.YthmpnnfejghhfaaGreatDoor
open Go.RowKit
set_option maxRecDepth 100000
theorem InvT.add {T : Nat → Prop} {w0 w : World} {rs : List Res} {r : Res} (h : InvT T w0 rs w) (hr : r.ok w) (hl : ∀ k, r.blk = some k → T k ∨ w0.heap.size ≤ k) (ha : ∀ s ∈ rs, ∀ k, r.blk = some k → s.blk ≠ some k) : InvT T w0 (rs ++ [r]) w := by
  refine ⟨h.but, fun i s hi => ?_, fun i s hi k hk => ?_, fun i j s t hij hi hj k hs ht => ?_⟩
  · rcases Nat.lt_or_ge i rs.length with hl' | hl'
    · rw [List.getElem?_append_left hl'] at hi; exact h.ok i s hi
    · exact az85
  · rcases Nat.lt_or_ge i rs.length with hl' | hl'
    · rw [List.getElem?_append_left hl'] at hi; exact h.low i s hi k hk
    · rw [List.getElem?_append_right hl'] at hi
      have h0 : i - rs.length = 0 := by have := getElem?_lt hi; simp at this; omega
      rw [h0] at hi; cases hi; exact hl k hk
  · rcases Nat.lt_or_ge i rs.length with l1 | l1 <;> rcases Nat.lt_or_ge j rs.length with l2 | l2
    · exact az91
    · rw [List.getElem?_append_left l1] at hi; rw [List.getElem?_append_right l2] at hj
      have h0 : j - rs.length = 0 := by have := getElem?_lt hj; simp at this; omega
      rw [h0] at hj; cases hj
      exact ha s (List.mem_of_getElem? hi) k ht hs
    · rw [List.getElem?_append_right l1] at hi; rw [List.getElem?_append_left l2] at hj
      have h0 : i - rs.length = 0 := by have := getElem?_lt hi; simp at this; omega
      rw [h0] at hi; cases hi
      exact ha t (List.mem_of_getElem? hj) k hs ht
    · have := getElem?_lt hi; have := getElem?_lt hj; simp at *; omega
theorem InvT.machO {T : Nat → Prop} {w0 w w' : World} {rs : List Res} {mc : Array Value} {m : Mach} (h : InvT T w0 rs w) (hb : Below w.heap.size w w') (hO : MachO Tryz.prog 25 73 3 w' w.heap.size mc m) :
    ∃ va vs vo, mc = (machL m.regs m.code va vs vo).toArray ∧ InvT T w0 (rs ++ [.row 25 7 va m.mem.length (m.mem.flatMap encV), .row 73 12 vs m.stack.length (m.stack.flatMap encF), .row 3 1 vo m.out.length (m.out.flatMap encI)]) w' := by
  obtain ⟨va, vs, vo, B1, B2, e, hOa, hUa, hB1, hOs, hUs, hB2, hOo⟩ := hO.ex; refine ⟨va, vs, vo, e, ?_⟩; have hz := h.size; have h1 := h.on hb
  have hlt : ∀ s ∈ rs, ∀ k, s.blk = some k → k < w.heap.size := fun s hs k hk => by
    obtain ⟨i, hi⟩ := List.getElem?_of_mem hs
    exact h.lt hi hk
  have la := hOa.lt; have ls := hOs.lt; have lo := hOo.lt
  have h2 := h1.add (r := .row 25 7 va m.mem.length (m.mem.flatMap encV)) (show w'.ownsRow 0 _ _ _ _ _ from hOa.base_mono (Nat.zero_le _)) (fun k hk => .inr (by have := (la k hk).1; omega)) (fun s hs k hk hk' => by
    have := (la k hk).1; have := hlt s hs k hk'; omega)
  have h3 := h2.add (r := .row 73 12 vs m.stack.length (m.stack.flatMap encF)) (show w'.ownsRow 0 _ _ _ _ _ from hOs.base_mono (Nat.zero_le _)) (fun k hk => .inr (by have := (ls k hk).1; omega)) (fun s hs k hk hk' => by
    have := (ls k hk).1
    rcases List.mem_append.1 hs with h5 | h5
    · have := hlt s h5 k hk'; omega
    · rw [List.mem_singleton.1 h5] at hk'; have := hUa k hk'; omega)
  have h4 := h3.add (r := .row 3 1 vo m.out.length (m.out.flatMap encI)) (show w'.ownsRow 0 _ _ _ _ _ from hOo.base_mono (Nat.zero_le _)) (fun k hk => .inr (by have := (lo k hk).1; omega)) (fun s hs k hk hk' => by
    have := (lo k hk).1
    rcases List.mem_append.1 hs with h5 | h5
    · rcases List.mem_append.1 h5 with h6 | h6
      · have := hlt s h6 k hk'; omega
      · rw [List.mem_singleton.1 h6] at hk'; have := hUa k hk'; omega
    · rw [List.mem_singleton.1 h5] at hk'; have := hUs k hk'; omega)
  rw [List.append_assoc, List.append_assoc] at h4
  exact h4
def stepF (m : Mach) : Mach × Int := if (machE m != 0) = true then (Mach.zero, machE m) else if (oneF m).2 = 0 then ((oneF m).1, 0) else (Mach.zero, (oneF m).2)
theorem MAt.val {T : Nat → Prop} {w0 w : World} {gm : Nat} {va vs vo : Value} {m : Mach} {ts : List Res} (h8 : m.regs.length = 8) (hI : InvT T w0 (mR gm va vs vo m ++ ts) w) : MachV w w.heap.size (machL m.regs m.code va vs vo).toArray m :=
  machV_own (InvT.own0 (enc := encV) (xs := m.mem) (size := 7) hI (i := 1) rfl) (InvT.own0 (enc := encF) (xs := m.stack) (size := 12) hI (i := 2) rfl) (InvT.own0 (enc := encI) (xs := m.out) (size := 1) hI (i := 3) rfl) h8
theorem c_step_no (mc : Array Value) (m : Mach) (w : World) (hm : MachV w w.heap.size mc m) (h0 : (machE m != 0) = true) :
    Calls Tryz.prog 12 #[.agg mc] w (RetMach w Mach.zero fun v => .tuple #[v, .int .i64 (machE m)]) := by
  have HM := Lib.hid hm; have hsz := hm.size; clear hm
  go_enter Tryz.func12, Tryz.ntmps12
  have hI := Inv.start w; have cF := hI.facts
  go_wp2_with (first | (refine listI rfl fun K hK => wpI_box _ _ rfl hI rfl fun gx w' hI' hb => hK _ _ ?_; clear hK K; (try clear hb); refine am92 ?_; clear hI hI'; (try clear cF); intro hI cF) | (refine listI rfl fun K hK => wpI_box1 _ _ rfl hI rfl rfl fun gx w' hI' hb => hK _ _ ?_; clear hK K; (try clear hb); refine am92 ?_; clear hI hI'; (try clear cF); intro hI cF) | (refine listI rfl fun K hK => wpI_alloc 31 rfl hI Tryz.zeroValue31 (cs := zeroMC) (by first | rfl | kernel_rfl) fun gx w' hI' hb => hK _ _ ?_; clear hK K; (try clear hb); refine am92 ?_; clear hI hI'; (try clear cF); intro hI cF) | (refine wpList_load_box rfl 31 _ rfl (hI.box (i := 0) rfl) rfl Tryz.underlying31 rfl (by first | exact info_mach (by assumption) | (simp only [hsz1]; kernel_rfl) | (simp only [hsz2]; kernel_rfl) | (simp only [hsz]; kernel_rfl) | kernel_rfl) ?_) | (go_at_call 27; (with_reducible refine (c_step_Check mc m _ (hI.mach HM.out)).mono ?_); refine am101 ?_; clear hI; (try clear cF); intro w' hI cF) | (refine listI rfl fun K hK => wpI_storeW _ _ _ rfl hI rfl 1 rfl rfl rfl (by kernel_rfl) (by simp [Value.oneCell']) fun w' hI' => hK _ _ ?_; clear hK K; (try clear hb); refine am92 ?_; clear hI hI'; (try clear cF); intro hI cF) | fail)
  exact az54
set_option maxHeartbeats 1000000 in
theorem c_step_err (mc : Array Value) (m : Mach) (w : World) (hm : MachV w w.heap.size mc m) (hE : Env w) (h0 : (machE m != 0) = false) (he : ¬ (oneF m).2 = 0) :
    Calls Tryz.prog 12 #[.agg mc] w (RetMach w Mach.zero fun v => .tuple #[v, .int .i64 (oneF m).2]) := by
  refine am189 ?_; intro HM hsz HE; have HOK := Lib.hid (machE_ok h0); have he' : ((oneF m).2 != 0) = true := (by simpa using he)
  obtain ⟨q, hq⟩ : ∃ q, oneF m = q := ⟨_, rfl⟩
  have HQ := Lib.hid hq
  rw [hq] at he he' ⊢
  clear hm hq he hE
  go_enter Tryz.func12, Tryz.ntmps12
  have hI := Inv.start w; have cF := hI.facts
  go_wp2_with (first
    | (refine listI rfl fun K hK => wpI_box _ _ rfl hI rfl fun gx w' hI' hb => hK _ _ ?_; clear hK K; (try clear hb); refine am92 ?_; clear hI hI'; (try clear cF); intro hI cF) | (refine listI rfl fun K hK => wpI_box1 _ _ rfl hI rfl rfl fun gx w' hI' hb => hK _ _ ?_; clear hK K; (try clear hb); refine am92 ?_; clear hI hI'; (try clear cF); intro hI cF) | (refine listI rfl fun K hK => wpI_alloc 31 rfl hI Tryz.zeroValue31 (cs := zeroMC) (by first | rfl | kernel_rfl) fun gx w' hI' hb => hK _ _ ?_; clear hK K; (try clear hb); refine am92 ?_; clear hI hI'; (try clear cF); intro hI cF) | (refine wpList_load_box rfl 31 _ rfl (hI.box (i := 0) rfl) rfl Tryz.underlying31 rfl (by first | exact info_mach (by assumption) | (simp only [hsz1]; kernel_rfl) | (simp only [hsz2]; kernel_rfl) | (simp only [hsz]; kernel_rfl) | kernel_rfl) ?_)
    | (go_at_call 27; (with_reducible refine (c_step_Check mc m _ (hI.mach HM.out)).mono ?_); refine am101 ?_; clear hI; (try clear cF); intro w' hI cF)
    | (go_at_call 28; refine (c_step_Copied mc m _ (hI.mach HM.out) HOK.out.len HOK.out.deep HOK.out.outs).mono ?_; rintro e w' ⟨mc', rfl, hO, hb⟩; have h8 := hO.regs; obtain ⟨va, vs, vo, rfl, hI'⟩ := hI.machO hb hO; clear hO; (try clear hb); refine am92 ?_; clear hI hI'; (try clear cF); intro hI cF)
    | (go_at_call 29
       refine am195 ?_; intro hP hI2; intro ed w2 hr
       obtain ⟨rfl, h8', va', vs', vo', hI3⟩ := hr
       have hI := hI2.frame hI3
       rw [HQ.out] at hI h8' ⊢
       clear hI2 hI3 hP; unfold mR at hI; (try simp only [List.cons_append, List.nil_append, List.set_cons_zero, List.set_cons_succ, List.setIfInBounds_toArray, Act.put, Act.eval, Array.getD_eq_getD_getElem?, List.getElem?_toArray, List.getElem?_cons_zero, List.getElem?_cons_succ, Option.getD_some] at hI)
       (try clear cF); have cF := hI.facts; (try simp only [mm] at cF))
    | (refine listI rfl fun K hK => wpI_storeW _ _ _ rfl hI rfl 0 rfl rfl (by rw [hsz, List.size_toArray, machL_length h8]) (info_mach h8) (machL_one h8 (hI.one (i := 2) rfl) (hI.one (i := 3) rfl) (hI.one (i := 4) rfl)) fun w' hI' => hK _ _ ?_; clear hK K; (try clear hb); refine am92 ?_; clear hI hI'; (try clear cF); intro hI cF)
    | (refine listI rfl fun K hK => wpI_storeW _ _ _ rfl hI rfl 4 rfl rfl rfl (by kernel_rfl) (by simp [Value.oneCell']) fun w' hI' => hK _ _ ?_; clear hK K; (try clear hb); refine am92 ?_; clear hI hI'; (try clear cF); intro hI cF)
    | fail)
  have hbx := hI.box (i := 4) rfl; (refine am126 ?_)
  exact ⟨_, rfl, MachV.zero _ _, hI.below⟩
set_option maxHeartbeats 1000000 in
theorem c_step_ok (mc : Array Value) (m : Mach) (w : World) (hm : MachV w w.heap.size mc m) (hE : Env w) (h0 : (machE m != 0) = false) (he : (oneF m).2 = 0) :
    Calls Tryz.prog 12 #[.agg mc] w (RetMach w (oneF m).1 fun v => .tuple #[v, .int .i64 0]) := by
  refine am189 ?_; intro HM hsz HE; have HOK := Lib.hid (machE_ok h0)
  obtain ⟨q, hq⟩ : ∃ q, oneF m = q := ⟨_, rfl⟩
  have HQ := Lib.hid hq
  rw [hq] at he ⊢
  clear hm hq hE; obtain ⟨m', qe⟩ := q
  dsimp only at he ⊢
  subst he
  go_enter Tryz.func12, Tryz.ntmps12
  have hI := Inv.start w; have cF := hI.facts
  go_wp2_with (first
    | (refine listI rfl fun K hK => wpI_box _ _ rfl hI rfl fun gx w' hI' hb => hK _ _ ?_; clear hK K; (try clear hb); refine am92 ?_; clear hI hI'; (try clear cF); intro hI cF) | (refine listI rfl fun K hK => wpI_box1 _ _ rfl hI rfl rfl fun gx w' hI' hb => hK _ _ ?_; clear hK K; (try clear hb); refine am92 ?_; clear hI hI'; (try clear cF); intro hI cF) | (refine listI rfl fun K hK => wpI_alloc 31 rfl hI Tryz.zeroValue31 (cs := zeroMC) (by first | rfl | kernel_rfl) fun gx w' hI' hb => hK _ _ ?_; clear hK K; (try clear hb); refine am92 ?_; clear hI hI'; (try clear cF); intro hI cF) | (refine wpList_load_box rfl 31 _ rfl (hI.box (i := 0) rfl) rfl Tryz.underlying31 rfl (by first | exact info_mach (by assumption) | (simp only [hsz1]; kernel_rfl) | (simp only [hsz2]; kernel_rfl) | (simp only [hsz]; kernel_rfl) | kernel_rfl) ?_)
    | (go_at_call 27; (with_reducible refine (c_step_Check mc m _ (hI.mach HM.out)).mono ?_); refine am101 ?_; clear hI; (try clear cF); intro w' hI cF)
    | (go_at_call 28; refine (c_step_Copied mc m _ (hI.mach HM.out) HOK.out.len HOK.out.deep HOK.out.outs).mono ?_; rintro e w' ⟨mc', rfl, hO, hb⟩; have h8 := hO.regs; obtain ⟨va, vs, vo, rfl, hI'⟩ := hI.machO hb hO; clear hO; (try clear hb); refine am92 ?_; clear hI hI'; (try clear cF); intro hI cF)
    | (go_at_call 29
       refine am195 ?_; intro hP hI2; intro ed w2 hr
       obtain ⟨rfl, h8', va', vs', vo', hI3⟩ := hr
       have hI := hI2.frame hI3
       rw [HQ.out] at hI h8' ⊢
       clear hI2 hI3 hP; dsimp only at hI h8'; unfold mR at hI; (try simp only [List.cons_append, List.nil_append, List.set_cons_zero, List.set_cons_succ, List.setIfInBounds_toArray, Act.put, Act.eval, Array.getD_eq_getD_getElem?, List.getElem?_toArray, List.getElem?_cons_zero, List.getElem?_cons_succ, Option.getD_some] at hI)
       (try clear cF); have cF := hI.facts; (try simp only [mm] at cF))
    | (refine listI rfl fun K hK => wpI_storeW _ _ _ rfl hI rfl 0 rfl rfl (by rw [hsz, List.size_toArray, machL_length h8]) (info_mach h8) (machL_one h8 (hI.one (i := 2) rfl) (hI.one (i := 3) rfl) (hI.one (i := 4) rfl)) fun w' hI' => hK _ _ ?_; clear hK K; (try clear hb); refine am92 ?_; clear hI hI'; (try clear cF); intro hI cF)
    | (refine listI rfl fun K hK => wpI_storeW _ _ _ rfl hI rfl 4 rfl rfl (by rw [zeroMC_size, List.size_toArray, machL_length h8']) (info_mach h8') (machL_one h8' (hI.one (i := 1) rfl) (hI.one (i := 2) rfl) (hI.one (i := 3) rfl)) fun w' hI' => hK _ _ ?_; clear hK K; (try clear hb); refine am92 ?_; clear hI hI'; (try clear cF); intro hI cF)
    | fail)
  have hbx := hI.box (i := 4) rfl; refine bodyPost_ret (results_ct rfl rfl hbx Tryz.underlying31 rfl (info_mach h8')) rfl ?_
  exact ⟨_, rfl, MAt.val (ts := [_]) h8' hI, hI.below⟩
theorem c_step_Step (mc : Array Value) (m : Mach) (w : World) (hm : MachV w w.heap.size mc m) (hE : Env w) :
    Calls Tryz.prog 12 #[.agg mc] w (RetMach w (stepF m).1 fun v => .tuple #[v, .int .i64 (stepF m).2]) := by
  unfold stepF
  cases h0 : (machE m != 0)
  · rw [if_neg (by simp)]
    by_cases he : (oneF m).2 = 0
    · rw [if_pos he]; exact c_step_ok mc m w hm hE h0 he
    · rw [if_neg he]; exact c_step_err mc m w hm hE h0 he
  · rw [if_pos rfl]; exact c_step_no mc m w hm h0
end Go.Proofs.YthmpnnfejghhfaaGreatDoor
