/- What the parts say: The reference's table of instructions, split. Conditions: the library's variables hold what they were laid with. -/
import Derived.Test.YthmpnnfejghhfaaGreatDoorP19
import Derived.Test.YthmpnnfejghhfaaGreatDoorP12
import Derived.Test.YthmpnnfejghhfaaGreatDoorP20
import Derived.Test.YthmpnnfejghhfaaGreatDoorP11
set_option linter.unusedVariables false
set_option linter.unusedSimpArgs false
namespace Go.Proofs.YthmpnnfejghhfaaGreatDoor
theorem az77 {P : Prop} (h : P := by
  rw [e]
  exact ⟨fun h => absurd rfl h, fun _ h => by simp [goF, h], fun _ h => by simp [goF, h]⟩) : P := h
theorem az78 {P : Prop} (h : P := by
  split at hp
  · rename_i hn
    subst hp
    have h1 := keyOk_iff.1 (plainE_zero.1 h0).1; have h2 := inR_iff.1 hn
    exact keyOk_iff.2 (by dsimp only; omega)
  · subst hp; exact absurd h (by decide)) : P := h
open Go.RowKit
set_option maxRecDepth 100000
theorem split_table : Lib.splitB ⟨#[59]⟩ 0 (Lib.countB tableB ⟨#[59]⟩) tableB = tableL := by kernel_rfl
theorem split_parts : (tableL.map fun s => Lib.splitB ⟨#[32]⟩ 0 (Lib.countB s ⟨#[32]⟩) s) = partsL := by kernel_rfl
theorem table_small : ∀ s ∈ tableL, s.size < 4294967281 := by
  have h : (tableL.all fun s => decide (s.size < 100)) = true := (by kernel_rfl); intro s hs
  have := of_decide_eq_true (List.all_eq_true.1 h s hs)
  omega
theorem r_table {w0 w : World} {rs : List Res} (hI : Inv w0 rs w) (hE : Env w0) : Calls Tryz.prog 87 #[] w fun e w' => ∃ g, e = .returned (.slice (some ⟨g, 0, none⟩) 23 23) ∧ Inv w0 (rs ++ [.box g 9 (tableL.map Value.string).toArray]) w' := by
  have hI0 := Inv.start w; have hE' := hE.inv hI
  go_enter Tryz.func87, Tryz.ntmps87
  go_wp2_with (first | (go_at_call 88; refine (c_Split tableB ⟨#[59]⟩ w hE' (by decide) (by decide) tableL split_table).mono ?_; rintro e w' ⟨g, rfl, rfl, rfl⟩) | fail)
  go_returns
  exact ⟨_, rfl, hI.alloc _ _⟩
theorem c_parts {w0 w : World} {rs : List Res} (hI : Inv w0 rs w) (hE : Env w0) (k : Nat) (s : ByteArray) (l : List ByteArray) (hs : tableL[k]? = some s) (hl : partsL[k]? = some l) : Calls Tryz.prog 88 #[.string s, .string ⟨#[32]⟩] w fun e w' => ∃ g, e = .returned (.slice (some ⟨g, 0, none⟩) l.length l.length) ∧ Inv w0 (rs ++ [.box g 9 (l.map Value.string).toArray]) w' := by
  have he : Lib.splitB ⟨#[32]⟩ 0 (Lib.countB s ⟨#[32]⟩) s = l := by
    have := split_parts
    rw [← this, List.getElem?_map, hs] at hl
    simpa using hl
  refine (c_Split s ⟨#[32]⟩ w (hE.inv hI) (table_small s (List.mem_of_getElem? hs)) (by decide) l he).mono ?_
  rintro e w' ⟨g, rfl, rfl, rfl⟩
  exact ⟨_, rfl, hI.alloc _ _⟩
end Go.Proofs.YthmpnnfejghhfaaGreatDoor
namespace Go.Proofs.YthmpnnfejghhfaaGreatDoor
open Go.RowKit
set_option maxRecDepth 100000
theorem valE_num {n : Int} (h : -2147483648 ≤ n ∧ n ≤ 2147483647) : valE ⟨false, n, Key.zero⟩ = 0 := by
  unfold valE
  rw [if_neg (by simp), if_pos (inR_iff.2 h), if_pos rfl]
theorem valE_ofKey {k : Key} (h : keyOk k = true) : valE ⟨true, 0, k⟩ = 0 := by
  unfold valE
  rw [if_pos rfl, if_pos h, if_pos rfl]
theorem valE_zero : valE Val.zero = 0 := valE_num (by omega)
theorem wr_of {n : Int} (h : -2147483648 ≤ n ∧ n ≤ 2147483647) : wr n = n := by unfold wr; omega
theorem wr_in (n : Int) : -2147483648 ≤ wr n ∧ wr n ≤ 2147483647 := by unfold wr; omega
theorem truthOf_in (b : Bool) : -2147483648 ≤ truthOf b ∧ truthOf b ≤ 2147483647 := by cases b <;> decide
theorem keyMove_ok {k : Key} {n : Int} (h : (keyMove k n).2 = 0) : keyOk (keyMove k n).1 = true := by
  obtain ⟨p, hp⟩ : ∃ p, keyMove k n = p := ⟨_, rfl⟩
  rw [hp] at h ⊢
  unfold keyMove at hp
  split at hp
  · rename_i h0
    exact az78
  · rename_i h0
    subst hp; exact absurd h h0
theorem keyNarrow_ok {k : Key} {n : Int} (h : (keyNarrow k n).2 = 0) : keyOk (keyNarrow k n).1 = true := by
  obtain ⟨p, hp⟩ : ∃ p, keyNarrow k n = p := ⟨_, rfl⟩
  rw [hp] at h ⊢
  unfold keyNarrow at hp
  split at hp
  · rename_i h0
    split at hp
    · rename_i hn
      subst hp
      have h1 := keyOk_iff.1 (plainE_zero.1 h0).1; have h2 := inR_iff.1 hn.2; have h3 := hn.1
      exact keyOk_iff.2 (by dsimp only; omega)
    · subst hp; exact absurd h (by decide)
  · rename_i h0
    subst hp; exact absurd h h0
theorem and_perm {x : Int} (y : Int) (h : 0 ≤ x ∧ x ≤ 127) : 0 ≤ bits .and .i64 x y ∧ bits .and .i64 x y ≤ 127 := by
  have h1 : (BitVec.ofInt 64 x &&& BitVec.ofInt 64 y).toNat ≤ 127 := by
    rw [BitVec.toNat_and]
    refine Nat.le_trans Nat.and_le_left ?_
    rw [BitVec.toNat_ofInt]
    omega
  rw [and_left]
  unfold wrap64
  omega
theorem keyDrop_ok {k : Key} {n : Int} (h : (keyDrop k n).2 = 0) : keyOk (keyDrop k n).1 = true := by
  obtain ⟨p, hp⟩ : ∃ p, keyDrop k n = p := ⟨_, rfl⟩
  rw [hp] at h ⊢
  unfold keyDrop at hp
  split at hp
  · rename_i h0
    subst hp
    have h1 := keyOk_iff.1 (plainE_zero.1 h0).1; have h2 := and_perm n h1.2.2.1
    exact keyOk_iff.2 ⟨h1.1, h1.2.1, h2, h1.2.2.2⟩
  · rename_i h0
    subst hp; exact absurd h h0
theorem bothE_zero {k b : Key} (h : bothE k b = 0) : keyOk k = true ∧ keyOk b = true := by
  unfold bothE at h
  split at h
  · rename_i h0; exact ⟨h0, keyE_eq h⟩
  · cases h
theorem keySeal_ok {k b : Key} (h : (keySeal k b).2 = 0) : keyOk (keySeal k b).1 = true := by
  obtain ⟨p, hp⟩ : ∃ p, keySeal k b = p := ⟨_, rfl⟩
  rw [hp] at h ⊢
  unfold keySeal at hp
  split at hp
  · split at hp
    · rename_i h0
      split at hp
      · exact az78
      · rename_i h0; subst hp; exact absurd h h0
    · rename_i h0; subst hp; exact absurd h h0
  · rename_i h0; subst hp; exact absurd h h0
theorem keyOpen_ok {k b : Key} (h : (keyOpen k b).2 = 0) : keyOk (keyOpen k b).1 = true := by
  obtain ⟨p, hp⟩ : ∃ p, keyOpen k b = p := ⟨_, rfl⟩
  rw [hp] at h ⊢
  unfold keyOpen at hp
  split at hp
  · rename_i hb
    split at hp
    · subst hp; exact absurd h (by decide)
    · split at hp
      · split at hp
        · subst hp
          have h1 := keyOk_iff.1 (bothE_zero hb).1
          exact keyOk_iff.2 (by dsimp only; omega)
        · subst hp; exact absurd h (by decide)
      · rename_i h0; subst hp; exact absurd h h0
  · rename_i h0; subst hp; exact absurd h h0
theorem dvq_in (a b : Int) : -2147483648 ≤ dvq a b ∧ dvq a b ≤ 2147483647 := by
  unfold dvq
  split
  · omega
  · exact wr_in _
theorem numF_in (i : Inst) (x y : Int) : -2147483648 ≤ numF i x y ∧ numF i x y ≤ 2147483647 := by
  unfold numF
  split
  · exact wr_in _
  split
  · exact wr_in _
  split
  · exact wr_in _
  · exact truthOf_in _
theorem askF_in {k : Key} (h : keyOk k = true) (c : Int) : -2147483648 ≤ askF k c ∧ askF k c ≤ 2147483647 := by
  have h1 := keyOk_iff.1 h; unfold askF
  repeat' split
  all_goals omega
theorem getF_ok {xs : List Val} (h : ∀ v ∈ xs, valE v = 0) (k : Key) (off : Int) : valE (getF xs k off).1 = 0 := by
  obtain ⟨p, hp⟩ : ∃ p, getF xs k off = p := ⟨_, rfl⟩
  rw [hp]
  unfold getF at hp
  split at hp
  · subst hp; exact valE_zero
  · split at hp
    · rename_i v hv
      split at hp
      · subst hp; exact valE_zero
      · subst hp; exact h v (List.mem_of_getElem? hv)
    · subst hp; exact valE_zero
theorem putF_ok {xs : List Val} (h : ∀ v ∈ xs, valE v = 0) (k : Key) (off : Int) {v : Val} (hv : valE v = 0) : ∀ x ∈ (putF xs k off v).1, valE x = 0 := by
  obtain ⟨p, hp⟩ : ∃ p, putF xs k off v = p := ⟨_, rfl⟩
  rw [hp]
  unfold putF at hp
  split at hp
  · subst hp; exact h
  · split at hp
    · subst hp; exact h
    · subst hp
      intro x hx
      rcases List.mem_or_eq_of_mem_set hx with h1 | h1
      · exact h x h1
      · rw [h1]; exact hv
section
variable {m : Mach} {i : Inst}
theorem MachOk.reg (h : MachOk m) (r : Int) : valE (regV m r) = 0 := by
  unfold regV
  rw [List.getD_eq_getElem?_getD]
  cases hq : m.regs[r.toNat]? with
  | none => exact valE_zero
  | some v => exact h.regs v (List.mem_of_getElem? hq)
theorem MachOk.regAt (h : MachOk m) (r : Nat) : valE (m.regs.getD r Val.zero) = 0 := by
  rw [List.getD_eq_getElem?_getD]
  cases hq : m.regs[r]? with
  | none => exact valE_zero
  | some v => exact h.regs v (List.mem_of_getElem? hq)
theorem MachOk.setRegs (h : MachOk m) (r : Nat) {v : Val} (hv : valE v = 0) : ∀ x ∈ m.regs.set r v, valE x = 0 := fun x hx => by
  rcases List.mem_or_eq_of_mem_set hx with h1 | h1
  · exact h.regs x h1
  · rw [h1]; exact hv
theorem MachOk.setR (h : MachOk m) (r : Int) {v : Val} (hv : valE v = 0) : MachOk (setR m r v) :=
  ⟨h.setRegs _ hv, h.code, h.len, h.mem, h.deep, h.stack, h.outs, h.out⟩
theorem retF_ok (h : MachOk m) (r : Int) {x : Key × Int} (hx : x.2 = 0 → keyOk x.1 = true) (e : (retF m r x).2 = 0) : MachOk (retF m r x).1 := by
  obtain ⟨p, hp⟩ : ∃ p, retF m r x = p := ⟨_, rfl⟩
  rw [hp] at e ⊢
  unfold retF at hp
  split at hp
  · rename_i h0; subst hp; exact h.setR _ (valE_ofKey (hx h0))
  · rename_i h0; subst hp; exact absurd e h0
theorem byKeyF_ok (h : MachOk m) (e : (byKeyF i m).2 = 0) : MachOk (byKeyF i m).1 := by
  obtain ⟨p, hp⟩ : ∃ p, byKeyF i m = p := ⟨_, rfl⟩
  rw [hp] at e ⊢
  unfold byKeyF at hp; dsimp only at hp
  split at hp
  · subst hp; simp at e
  split at hp
  · split at hp
    · subst hp; exact h.setR _ (getF_ok h.mem _ _)
    · rename_i h0; subst hp; exact absurd e h0
  split at hp
  · split at hp
    · subst hp
      exact ⟨h.regs, h.code, by rw [putF_length]; exact h.len, putF_ok h.mem _ _ (h.reg _), h.deep, h.stack, h.outs, h.out⟩
    · rename_i h0; subst hp; exact absurd e h0
  split at hp
  · subst hp; exact retF_ok (x := keyDrop _ _) h _ (fun h1 => keyDrop_ok h1) e
  split at hp
  · split at hp
    · subst hp; simp at e
    · subst hp
      by_cases h12 : i.op = 12
      · rw [if_pos h12] at e ⊢
        exact retF_ok (x := keyMove _ _) h i.a (fun h1 => keyMove_ok h1) e
      · rw [if_neg h12] at e ⊢
        exact retF_ok (x := keyNarrow _ _) h i.a (fun h1 => keyNarrow_ok h1) e
  split at hp
  · split at hp
    · subst hp; simp at e
    · subst hp
      by_cases h15 : i.op = 15
      · rw [if_pos h15] at e ⊢
        exact retF_ok (x := keySeal _ _) h i.a (fun h1 => keySeal_ok h1) e
      · rw [if_neg h15] at e ⊢
        exact retF_ok (x := keyOpen _ _) h i.a (fun h1 => keyOpen_ok h1) e
  · subst hp; exact h
theorem plainF_ok (h : MachOk m) (hi : instOk i = true) (e : (plainF i m).2 = 0) : MachOk (plainF i m).1 := by
  obtain ⟨h1, h2, h3, h4⟩ := instOk_in hi
  obtain ⟨p, hp⟩ : ∃ p, plainF i m = p := ⟨_, rfl⟩
  rw [hp] at e ⊢
  unfold plainF at hp
  split at hp
  · subst hp; exact h.setR _ (valE_num (by omega))
  split at hp
  · subst hp; exact h.setR _ (h.reg _)
  split at hp
  · split at hp
    · subst hp; simp at e
    split at hp
    · split at hp
      · subst hp; exact h.setR _ (valE_num (dvq_in _ _))
      · rename_i hd; subst hp; exact absurd e hd
    · subst hp; exact h.setR _ (valE_num (numF_in _ _ _))
  split at hp
  · split at hp
    · subst hp; exact h.setR _ (valE_num (truthOf_in _))
    split at hp
    · rename_i hv; subst hp; exact h.setR _ (valE_num (askF_in (valE_is (h.reg _) hv).1 _))
    · subst hp; simp at e
  split at hp
  · subst hp; exact h.setR _ (valE_ofKey h.code)
  split at hp
  · subst hp
    refine ⟨fun x hx => ?_, h.code, h.len, h.mem, h.deep, h.stack, h.outs, h.out⟩
    obtain ⟨r, hr, rfl⟩ := List.mem_map.1 hx
    split
    · exact valE_zero
    · exact h.regAt r
  split at hp
  · split at hp
    · subst hp; simp at e
    rename_i hn
    split at hp
    · subst hp; simp at e
    rename_i hl
    subst hp
    have hv := valE_not (h.reg i.a) (by simpa using hn)
    refine ⟨h.regs, h.code, h.len, h.mem, h.deep, h.stack, ?_, fun n hn => ?_⟩
    · have := h.outs
      simp only [List.length_append, List.length_cons, List.length_nil]
      omega
    · rcases List.mem_append.1 hn with h5 | h5
      · exact h.out n h5
      · rw [List.mem_singleton.1 h5]; exact (wr_of hv.1).symm
  · subst hp; exact byKeyF_ok h e
theorem code_pos {k : Key} (h : keyOk k = true) {n : Int} (h1 : 0 ≤ n ∧ n ≤ 400) : keyOk { k with pos := n } = true := by
  have := keyOk_iff.1 h
  exact keyOk_iff.2 (by dsimp only; omega)
theorem code_tag {k : Key} (h : keyOk k = true) : keyOk { k with tag := 0 } = true := by
  have := keyOk_iff.1 h
  exact keyOk_iff.2 (by dsimp only; omega)
theorem MachOk.movC (h : MachOk m) {d : Int} (h1 : 0 ≤ m.code.pos + d ∧ m.code.pos + d ≤ 400) : MachOk (movC m d) :=
  ⟨h.regs, code_pos h.code h1, h.len, h.mem, h.deep, h.stack, h.outs, h.out⟩
theorem goF_ok (h : MachOk m) (d : Int) (e : (goF m d).2 = 0) : MachOk (goF m d).1 := by
  obtain ⟨p, hp⟩ : ∃ p, goF m d = p := ⟨_, rfl⟩
  rw [hp] at e ⊢
  unfold goF at hp
  split at hp
  · rename_i h0; subst hp; exact h.movC (inR_iff.1 h0)
  · subst hp; simp at e
theorem callF_ok (h : MachOk m) {a b : Key} (ha : keyOk a = true) (hb : keyOk b = true) (h1 : m.code.pos + 1 ≤ 400) (e : (callF m a b).2 = 0) : MachOk (callF m a b).1 := by
  obtain ⟨p, hp⟩ : ∃ p, callF m a b = p := ⟨_, rfl⟩
  rw [hp] at e ⊢
  unfold callF at hp
  split at hp
  · subst hp; simp at e
  split at hp
  · subst hp; simp at e
  split at hp
  · subst hp; simp at e
  rename_i hl
  subst hp
  have hk := keyOk_iff.1 h.code
  refine ⟨h.setRegs _ (valE_ofKey (code_tag hb)), code_tag ha, h.len, h.mem, ?_, fun f hf => ?_, h.outs, h.out⟩
  · simp only [List.length_append, List.length_cons, List.length_nil]
    omega
  · rcases List.mem_append.1 hf with h5 | h5
    · exact h.stack f h5
    · rw [List.mem_singleton.1 h5]
      exact ⟨code_pos h.code ⟨by omega, h1⟩, h.regAt 7⟩
theorem backF_ok (h : MachOk m) (e : (backF m).2 = 0) : MachOk (backF m).1 := by
  obtain ⟨p, hp⟩ : ∃ p, backF m = p := ⟨_, rfl⟩
  rw [hp] at e ⊢
  unfold backF at hp
  split at hp
  · subst hp; simp at e
  · rename_i f hf
    subst hp
    have hm := h.stack f (List.mem_of_getLast? hf); refine ⟨h.setRegs _ hm.2, hm.1, h.len, h.mem, ?_, fun g hg => h.stack g (List.dropLast_subset _ hg), h.outs, h.out⟩
    have := h.deep
    simp only [List.length_dropLast]
    omega
theorem byKeyF_pos (i : Inst) (m : Mach) : (byKeyF i m).1.code.pos = m.code.pos := by
  have hr : ∀ r (x : Key × Int), (retF m r x).1.code.pos = m.code.pos := fun r x => by
    unfold retF; split <;> rfl
  unfold byKeyF; dsimp only
  repeat' split
  all_goals first | rfl | exact hr _ _
theorem plainF_pos (i : Inst) (m : Mach) : (plainF i m).1.code.pos = m.code.pos := by
  unfold plainF
  repeat' split
  all_goals first | exact byKeyF_pos _ _ | rfl
theorem doF_ok (h : MachOk m) (hi : instOk i = true) (h1 : m.code.pos + 1 ≤ 400) (e : (doF i m).2 = 0) : MachOk (doF i m).1 := by
  obtain ⟨p, hp⟩ : ∃ p, doF i m = p := ⟨_, rfl⟩
  rw [hp] at e ⊢
  unfold doF at hp
  split at hp
  · subst hp; simp at e
  split at hp
  · subst hp; exact goF_ok h _ e
  split at hp
  · split at hp
    · subst hp; simp at e
    · subst hp; exact goF_ok h _ e
  split at hp
  · split at hp
    · subst hp; simp at e
    · rename_i hn
      subst hp
      have ha : (regV m i.a).is = true := by
        cases hq : (regV m i.a).is
        · exact absurd (.inl hq) hn
        · rfl
      have hb : (regV m i.b).is = true := by
        cases hq : (regV m i.b).is
        · exact absurd (.inr hq) hn
        · rfl
      exact callF_ok h (valE_is (h.reg _) ha).1 (valE_is (h.reg _) hb).1 h1 e
  split at hp
  · subst hp; exact backF_ok h e
  split at hp
  · rename_i h0
    subst hp
    refine (plainF_ok h hi h0).movC ?_
    rw [plainF_pos]
    have := keyOk_iff.1 h.code
    omega
  · rename_i h0; subst hp; exact absurd e h0
theorem readF_ok {n : Int} (e : (readF n).2 = 0) : instOk (readF n).1 = true := by
  obtain ⟨p, hp⟩ : ∃ p, readF n = p := ⟨_, rfl⟩
  rw [hp] at e ⊢
  unfold readF at hp
  split at hp
  · rename_i h0; subst hp; exact h0
  · subst hp; simp at e
theorem fetchF_ok (e : (fetchF m).2 = 0) : instOk (fetchF m).1 = true ∧ 0 ≤ m.code.pos ∧ m.code.pos < m.mem.length ∧ m.code.pos + 1 ≤ 400 := by
  obtain ⟨p, hp⟩ : ∃ p, fetchF m = p := ⟨_, rfl⟩
  rw [hp] at e ⊢
  unfold fetchF at hp; dsimp only at hp
  split at hp
  · rename_i h0; subst hp; exact absurd e h0
  · rename_i h0
    have h1 := place_ok (Classical.not_not.1 h0)
    split at hp
    · subst hp; simp at e
    · subst hp
      exact ⟨readF_ok e, by omega⟩
theorem oneF_ok (h : MachOk m) (e : (oneF m).2 = 0) : MachOk (oneF m).1 := by
  obtain ⟨p, hp⟩ : ∃ p, oneF m = p := ⟨_, rfl⟩
  rw [hp] at e ⊢
  unfold oneF at hp
  split at hp
  · rename_i h0
    subst hp
    have h1 := fetchF_ok h0
    exact doF_ok h h1.1 h1.2.2.2 e
  · rename_i h0; subst hp; exact absurd e h0
end
end Go.Proofs.YthmpnnfejghhfaaGreatDoor
namespace Go.Proofs.YthmpnnfejghhfaaGreatDoor
open Go.RowKit
set_option maxRecDepth 100000
structure Fin' (p : Mach × Int) (m1 : Mach) (a : Nat) (v : Val) (e by_ : Int) (sets : Bool) : Prop where
  err : ¬ e = 0 → p.2 = e
  far : e = 0 → inR (m1.code.pos + by_) 0 400 = false → p.2 = 13
  ok : e = 0 → inR (m1.code.pos + by_) 0 400 = true → p = (movC (if sets = true then setR m1 a v else m1) by_, 0)
section
variable {m : Mach} {a b : Nat} {c : Int} {x y z : Val}
theorem regV_nat {r : Nat} (h : m.regs[r]? = some x) : regV m r = x := by
  unfold regV
  rw [Int.toNat_natCast, List.getD_eq_getElem?_getD, h]; rfl
theorem doF_plain {i : Inst} (hop : ¬ (i.op = 0 ∨ i.op = 8 ∨ i.op = 9 ∨ i.op = 18 ∨ i.op = 19)) : doF i m = if (plainF i m).2 = 0 then (movC (plainF i m).1 1, 0) else (m, (plainF i m).2) := by
  simp only [not_or] at hop; unfold doF
  rw [if_neg hop.1, if_neg hop.2.1, if_neg hop.2.2.1, if_neg hop.2.2.2.1, if_neg hop.2.2.2.2]
theorem fin_set {i : Inst} {v : Val} {e : Int} (hop : ¬ (i.op = 0 ∨ i.op = 8 ∨ i.op = 9 ∨ i.op = 18 ∨ i.op = 19)) (hp : 0 ≤ m.code.pos ∧ m.code.pos + 1 ≤ 400) (hq : plainF i m = if e = 0 then (setR m a v, 0) else (m, e)) : Fin' (doF i m) m a v e 1 true := by
  rw [doF_plain hop, hq]
  by_cases he : e = 0
  · subst he
    refine ⟨fun h => absurd rfl h, fun _ h => ?_, fun _ _ => by simp⟩; have h' : inR (m.code.pos + 1) 0 400 = true := inR_iff.2 (by omega)
    rw [h'] at h; cases h
  · rw [if_neg he]
    exact ⟨fun _ => by simp [he], fun h => absurd h he, fun h => absurd h he⟩
theorem fin_let {i : Inst} {m1 : Mach} {e : Int} (hop : ¬ (i.op = 0 ∨ i.op = 8 ∨ i.op = 9 ∨ i.op = 18 ∨ i.op = 19)) (hm : m1.code = m.code) (hp : 0 ≤ m.code.pos ∧ m.code.pos + 1 ≤ 400) (hq : plainF i m = if e = 0 then (m1, 0) else (m, e)) (v : Val) : Fin' (doF i m) m1 a v e 1 false := by
  rw [doF_plain hop, hq]
  by_cases he : e = 0
  · subst he
    refine ⟨fun h => absurd rfl h, fun _ h => ?_, fun _ _ => by simp⟩
    rw [hm] at h
    have h' : inR (m.code.pos + 1) 0 400 = true := inR_iff.2 (by omega)
    rw [h'] at h; cases h
  · rw [if_neg he]
    exact ⟨fun _ => by simp [he], fun h => absurd h he, fun h => absurd h he⟩
theorem fin1 (hp : 0 ≤ m.code.pos ∧ m.code.pos + 1 ≤ 400) : Fin' (doF ⟨1, a, b, c⟩ m) m a ⟨false, c, Key.zero⟩ 0 1 true := fin_set (by simp) hp (by simp [plainF, setN])
theorem fin2 (hp : 0 ≤ m.code.pos ∧ m.code.pos + 1 ≤ 400) (hy : regV m b = y) : Fin' (doF ⟨2, a, b, c⟩ m) m a y 0 1 true := fin_set (by simp) hp (by simp [plainF, hy])
theorem fin3 (hp : 0 ≤ m.code.pos ∧ m.code.pos + 1 ≤ 400) (hy : regV m b = y) (hz : regV m c = z) (h1 : y.is = false) (h2 : z.is = false) : Fin' (doF ⟨3, a, b, c⟩ m) m a ⟨false, calc0 0 y.n z.n, Key.zero⟩ 0 1 true := fin_set (by simp) hp (by simp [plainF, hy, hz, h1, h2, setN, numF, calc0])
theorem fin4 (hp : 0 ≤ m.code.pos ∧ m.code.pos + 1 ≤ 400) (hy : regV m b = y) (hz : regV m c = z) (h1 : y.is = false) (h2 : z.is = false) : Fin' (doF ⟨4, a, b, c⟩ m) m a ⟨false, calc0 1 y.n z.n, Key.zero⟩ 0 1 true := fin_set (by simp) hp (by simp [plainF, hy, hz, h1, h2, setN, numF, calc0])
theorem fin5 (hp : 0 ≤ m.code.pos ∧ m.code.pos + 1 ≤ 400) (hy : regV m b = y) (hz : regV m c = z) (h1 : y.is = false) (h2 : z.is = false) : Fin' (doF ⟨5, a, b, c⟩ m) m a ⟨false, calc0 2 y.n z.n, Key.zero⟩ 0 1 true := fin_set (by simp) hp (by simp [plainF, hy, hz, h1, h2, setN, numF, calc0])
theorem fin7 (hp : 0 ≤ m.code.pos ∧ m.code.pos + 1 ≤ 400) (hy : regV m b = y) (hz : regV m c = z) (h1 : y.is = false) (h2 : z.is = false) : Fin' (doF ⟨7, a, b, c⟩ m) m a ⟨false, calc0 3 y.n z.n, Key.zero⟩ 0 1 true := fin_set (by simp) hp (by simp [plainF, hy, hz, h1, h2, setN, numF, calc0])
theorem fin6 (hp : 0 ≤ m.code.pos ∧ m.code.pos + 1 ≤ 400) (hy : regV m b = y) (hz : regV m c = z) (h1 : y.is = false) (h2 : z.is = false) : Fin' (doF ⟨6, a, b, c⟩ m) m a ⟨false, dvq y.n z.n, Key.zero⟩ (dve z.n) 1 true := fin_set (by simp) hp (by simp [plainF, hy, hz, h1, h2, setN])
theorem fin8 : Fin' (doF ⟨8, a, b, c⟩ m) m a Val.zero 0 c false := by
  have e : doF ⟨8, a, b, c⟩ m = goF m c := (by simp [doF])
  exact az77
theorem fin9z (hx : regV m a = x) (h1 : x.is = false) (h2 : x.n = 0) : Fin' (doF ⟨9, a, b, c⟩ m) m a Val.zero 0 1 false := by
  have e : doF ⟨9, a, b, c⟩ m = goF m 1 := (by simp [doF, hx, h1, h2])
  exact az77
theorem fin9n (hx : regV m a = x) (h1 : x.is = false) (h2 : ¬ x.n = 0) : Fin' (doF ⟨9, a, b, c⟩ m) m a Val.zero 0 c false := by
  have e : doF ⟨9, a, b, c⟩ m = goF m c := (by simp [doF, hx, h1, h2])
  exact az77
theorem fin20 (hp : 0 ≤ m.code.pos ∧ m.code.pos + 1 ≤ 400) : Fin' (doF ⟨20, a, b, c⟩ m) m a ⟨true, 0, m.code⟩ 0 1 true := fin_set (by simp) hp (by simp [plainF, setK])
theorem fin17 (hp : 0 ≤ m.code.pos ∧ m.code.pos + 1 ≤ 400) (hy : regV m b = y) {cn : Nat} (hc6 : cn < 6) (h1 : 0 < cn → y.is = true) (r : Int)
    (hv : (#[.int .i64 (truthOf y.is), .int .i64 y.key.perm, .int .i64 y.key.base, .int .i64 y.key.len, .int .i64 y.key.pos, .int .i64 y.key.tag] : Array Value)[cn]? = some (.int .i64 r)) :
    Fin' (doF ⟨17, a, b, cn⟩ m) m a ⟨false, r, Key.zero⟩ 0 1 true := by
  refine fin_set (by simp) hp ?_
  rcases (show cn = 0 ∨ cn = 1 ∨ cn = 2 ∨ cn = 3 ∨ cn = 4 ∨ cn = 5 by omega) with rfl | rfl | rfl | rfl | rfl | rfl
  · simp at hv; simp [plainF, hy, setN, hv]
  all_goals (have h2 := h1 (by omega); simp at hv; simp [plainF, hy, setN, askF, h2, hv])
theorem fin12 (hp : 0 ≤ m.code.pos ∧ m.code.pos + 1 ≤ 400) (hy : regV m b = y) (hz : regV m c = z) (h1 : y.is = true) (h2 : z.is = false) : Fin' (doF ⟨12, a, b, c⟩ m) m a ⟨true, 0, (keyMove y.key z.n).1⟩ (keyMove y.key z.n).2 1 true := fin_set (by simp) hp (by simp [plainF, byKeyF, retF, setK, hy, hz, h1, h2])
theorem fin13 (hp : 0 ≤ m.code.pos ∧ m.code.pos + 1 ≤ 400) (hy : regV m b = y) (hz : regV m c = z) (h1 : y.is = true) (h2 : z.is = false) : Fin' (doF ⟨13, a, b, c⟩ m) m a ⟨true, 0, (keyNarrow y.key z.n).1⟩ (keyNarrow y.key z.n).2 1 true := fin_set (by simp) hp (by simp [plainF, byKeyF, retF, setK, hy, hz, h1, h2])
theorem fin14 (hp : 0 ≤ m.code.pos ∧ m.code.pos + 1 ≤ 400) (hy : regV m b = y) (h1 : y.is = true) : Fin' (doF ⟨14, a, b, c⟩ m) m a ⟨true, 0, (keyDrop y.key c).1⟩ (keyDrop y.key c).2 1 true := fin_set (by simp) hp (by simp [plainF, byKeyF, retF, setK, hy, h1])
theorem fin15 (hp : 0 ≤ m.code.pos ∧ m.code.pos + 1 ≤ 400) (hy : regV m b = y) (hz : regV m c = z) (h1 : y.is = true) (h2 : z.is = true) : Fin' (doF ⟨15, a, b, c⟩ m) m a ⟨true, 0, (keySeal y.key z.key).1⟩ (keySeal y.key z.key).2 1 true := fin_set (by simp) hp (by simp [plainF, byKeyF, retF, setK, hy, hz, h1, h2])
theorem fin16 (hp : 0 ≤ m.code.pos ∧ m.code.pos + 1 ≤ 400) (hy : regV m b = y) (hz : regV m c = z) (h1 : y.is = true) (h2 : z.is = true) : Fin' (doF ⟨16, a, b, c⟩ m) m a ⟨true, 0, (keyOpen y.key z.key).1⟩ (keyOpen y.key z.key).2 1 true := fin_set (by simp) hp (by simp [plainF, byKeyF, retF, setK, hy, hz, h1, h2])
theorem memE_of {m : Mach} (h : MachOk m) : (memE m.mem != 0) = false := by
  have e : memE m.mem = 0 := by
    unfold memE
    rw [if_neg (by have := h.len; omega)]
    exact firstE_zero h.mem
  rw [e]; rfl
theorem fin10 (hp : 0 ≤ m.code.pos ∧ m.code.pos + 1 ≤ 400) (hM : MachOk m) (hy : regV m b = y) (h1 : y.is = true) : Fin' (doF ⟨10, a, b, c⟩ m) m a (loadF m.mem y.key c).1 (loadF m.mem y.key c).2 1 true := by
  have e : loadF m.mem y.key c = getF m.mem y.key c := by unfold loadF; rw [if_neg (by rw [memE_of hM]; simp)]
  rw [e]
  exact fin_set (by simp) hp (by simp [plainF, byKeyF, hy, h1])
theorem storeF_ok {m : Mach} (hM : MachOk m) (k : Key) (c : Int) (hx : valE x = 0) : (storeF m.mem k c x).2 = (putF m.mem k c x).2 ∧ ((putF m.mem k c x).2 = 0 → (storeF m.mem k c x).1 = (putF m.mem k c x).1) := by
  have h0 := memE_of hM
  have h1 : (valE x != 0) = false := by rw [hx]; rfl
  cases h2 : ((putF m.mem k c x).2 != 0)
  · rw [storeF_yes h0 h1 h2]
    exact ⟨(by simpa using h2 : (putF m.mem k c x).2 = 0).symm, fun _ => rfl⟩
  · rw [storeF_no h0 h1 h2]
    exact ⟨rfl, fun h => absurd h (by simpa using h2)⟩
theorem fin11 (hp : 0 ≤ m.code.pos ∧ m.code.pos + 1 ≤ 400) (hM : MachOk m) (hx : regV m a = x) (hy : regV m b = y) (h1 : y.is = true) : Fin' (doF ⟨11, a, b, c⟩ m) { m with mem := (storeF m.mem y.key c x).1 } a Val.zero (storeF m.mem y.key c x).2 1 false := by
  have hv : valE x = 0 := by rw [← hx]; exact hM.reg _
  obtain ⟨e1, e2⟩ := storeF_ok hM y.key c hv; refine fin_let (m := m) (i := ⟨11, a, b, c⟩) (m1 := { m with mem := (storeF m.mem y.key c x).1 }) (by simp) rfl hp ?_ _
  rw [e1]
  by_cases h0 : (putF m.mem y.key c x).2 = 0
  · rw [e2 h0]
    simp [plainF, byKeyF, hx, hy, h1, h0]
  · simp [plainF, byKeyF, hx, hy, h1, h0]
theorem fin21 (hp : 0 ≤ m.code.pos ∧ m.code.pos + 1 ≤ 400) : Fin' (doF ⟨21, a, b, c⟩ m) (clearF m c) a Val.zero 0 1 false := fin_let (m := m) (i := ⟨21, a, b, c⟩) (m1 := clearF m c) (e := 0) (by simp) rfl hp (by simp [plainF]) _
theorem fin22 (hp : 0 ≤ m.code.pos ∧ m.code.pos + 1 ≤ 400) (hx : regV m a = x) (h1 : x.is = false) (hl : m.out.length ≤ 99) : Fin' (doF ⟨22, a, b, c⟩ m) { m with out := m.out ++ [x.n] } a Val.zero 0 1 false := fin_let (m := m) (i := ⟨22, a, b, c⟩) (m1 := { m with out := m.out ++ [x.n] }) (e := 0) (by simp) rfl hp (by simp [plainF, hx, h1, show ¬ m.out.length = 100 by omega]) _
theorem fin22f (hp : 0 ≤ m.code.pos ∧ m.code.pos + 1 ≤ 400) (hx : regV m a = x) (h1 : x.is = false) (hl : m.out.length = 100) : Fin' (doF ⟨22, a, b, c⟩ m) { m with out := m.out ++ [x.n] } a Val.zero 9 1 false := fin_let (m := m) (i := ⟨22, a, b, c⟩) (m1 := { m with out := m.out ++ [x.n] }) (e := 9) (by simp) rfl hp (by simp [plainF, hx, h1, hl]) _
theorem storeF_len' {xs : List Val} (h : xs.length ≤ 400) (k : Key) (off : Int) (v : Val) : (storeF xs k off v).1.length ≤ 400 := by
  unfold storeF
  split
  · simp
  split
  · simp
  split
  · simp
  · show (putF xs k off v).1.length ≤ 400
    rw [putF_length]; exact h
theorem Key.wf_of {k : Key} (h : keyOk k = true) : k.Wf := by
  have := keyOk_iff.1 h
  constructor <;> unfold i64 <;> omega
theorem Val.wf_of {v : Val} (h : valE v = 0) : v.Wf := by
  cases hi : v.is
  · have h1 := valE_not h hi; refine ⟨by have := h1.1; unfold i64; omega, ?_⟩
    rw [h1.2]
    constructor <;> unfold i64 Key.zero <;> simp
  · have h1 := valE_is h hi
    exact ⟨by rw [h1.2]; unfold i64; omega, Key.wf_of h1.1⟩
theorem ask_at {y : Val} {cn : Nat} (h : cn < 6) : ∃ r, (#[.int .i64 (truthOf y.is), .int .i64 y.key.perm, .int .i64 y.key.base, .int .i64 y.key.len, .int .i64 y.key.pos, .int .i64 y.key.tag] : Array Value)[cn]? = some (.int .i64 r) := by
  rcases (show cn = 0 ∨ cn = 1 ∨ cn = 2 ∨ cn = 3 ∨ cn = 4 ∨ cn = 5 by omega) with rfl | rfl | rfl | rfl | rfl | rfl <;> exact ⟨_, rfl⟩
end
end Go.Proofs.YthmpnnfejghhfaaGreatDoor
