/- What the parts say: copy between slices of structs, rows as blocks and back, append of a make that grows. Conditions: none. -/
import Derived.Test.YthmpnnfejghhfaaGreatDoorP15
import Derived.Laws.IdiomCopy
import Derived.Lib.Overlaps
import Derived.Lib.AppendZerosOnto
import Derived.Laws.NewBlocks
set_option linter.unusedVariables false
set_option linter.unusedSimpArgs false
namespace Go.Proofs.YthmpnnfejghhfaaGreatDoor
theorem az12 {P : Prop} (h : P := by
  obtain ⟨io, ia, ib, ic⟩ := i; dsimp only at hia hib hic hop
  subst hia hib hic hop
  refine am131 ?_; intro HP h8 va vs vo hI; generalize (machL m.regs m.code va vs vo).toArray = mc at hI; have H0 := Lib.hid hI; clear h
  go_enter Tryz.func82, Tryz.ntmps82
  have cF := hI.facts; (try simp only [mm] at cF)
  go_wp2_with (first
    | (refine lv 75 hI Tryz.zeroValue75 fun gx w' hI' hb => ?_; (try clear hb); refine am92 ?_; clear hI hI'; (try clear cF); intro hI cF)
    | (go_at_call 93; have hbl := H0.out.same (ts := [_]) hI (by simp); refine (c_numbers_err1 (HP.out.on hbl) _ b x hb8 rfl hx hxi).mono ?_; rintro ed w1 ⟨rfl, hb1⟩)
    | fail)
  exact ⟨rfl, rfl, Below.trans hbl (Below.mono hb1 hbl.size)⟩) : P := h
theorem az50 {P : Prop} (h : P := by
  have cF := hI.facts; (try simp only [mm] at cF)
  go_wp2_with (first
    | (refine lv 75 hI Tryz.zeroValue75 fun gx w' hI' hb => ?_; (try clear hb); refine am92 ?_; clear hI hI'; (try clear cF); intro hI cF)
    | (go_at_call 79; have hbl := H0.out.same (ts := [_]) hI (by simp); refine (c_number_err (HP.out.on hbl) a x hx ha8 hxi).mono ?_; rintro ed w1 ⟨rfl, hb1⟩)
    | fail)
  exact ⟨rfl, rfl, Below.trans hbl (Below.mono hb1 hbl.size)⟩) : P := h
theorem am96 {P Q : Prop} (k : Q) (h : Hq Q → P := by (intro k_; refine stepI rfl (wpI_alloc 25 rfl hI Tryz.zeroValue25 (cs := #[.bool Val.zero.is, .int .i64 Val.zero.n, .int .i64 Val.zero.key.perm, .int .i64 Val.zero.key.base, .int .i64 Val.zero.key.len, .int .i64 Val.zero.key.pos, .int .i64 Val.zero.key.tag]) (by first | rfl | kernel_rfl) fun gx w' hI' hb => hK.out _ _ (hI'.held (by simp)) (fun hHeld => ?_)); (try clear hb); refine am92 ?_; clear hI'; (try clear cF); intro hI cF; (try simp only [np, Act.put]); revert cF; revert hI; revert hHeld; revert w'; revert gx; exact k_.out)) : P := h ⟨k⟩
theorem am102 {P Q : Prop} (k : Q) (h : Hq Q → P := by (intro k_; (refine tg 0 ?_; (try simp only [np, Act.put])); (refine tg 1 ?_; (try simp only [np, Act.put])); (refine tg 2 ?_; (try simp only [np, Act.put])); (refine tg 3 ?_; (try simp only [np, Act.put])); (refine tg 4 ?_; (try simp only [np, Act.put])); (refine tg 5 ?_; (try simp only [np, Act.put])); (refine tg 6 ?_; (try simp only [np, Act.put])); (refine tg 7 ?_; (try simp only [np, Act.put])); (refine tg 8 ?_; (try simp only [np, Act.put])); (refine tg 9 ?_; (try simp only [np, Act.put])); (refine tg 10 ?_; (try simp only [np, Act.put])); (refine tg 11 ?_; (try simp only [np, Act.put])); exact k_.out)) : P := h ⟨k⟩
theorem am127 {P Q : Prop} (k : Q) (h : Hq Q → P := by (intro k_; refine am102 ?_; (refine tg 12 ?_; (try simp only [np, Act.put])); (refine tg 13 ?_; (try simp only [np, Act.put])); (refine tg 14 ?_; (try simp only [np, Act.put])); (refine tg 15 ?_; (try simp only [np, Act.put])); (refine tg 16 ?_; (try simp only [np, Act.put])); (refine tg 17 ?_; (try simp only [np, Act.put])); (refine tg 18 ?_; (try simp only [np, Act.put])); exact k_.out)) : P := h ⟨k⟩
theorem am131 {P Q : Prop} (k : Q) (h : Hq Q → P := by (intro k_; have HP := Lib.hid h; obtain ⟨h8, va, vs, vo, hI⟩ := h.two; revert hI; revert vo; revert vs; revert va; revert h8; revert HP; exact k_.out)) : P := h ⟨k⟩
theorem am132 {P Q : Prop} (k : Q) (h : Hq Q → P := by (intro k_; have hbl := H0.out.same (ts := [_]) hI (by simp); refine (HA.out _ (HP.out.on hbl)).mono ?_; intro ed w4 hs; revert hs; revert w4; revert ed; revert hbl; exact k_.out)) : P := h ⟨k⟩
theorem am137 {P Q : Prop} (k : Q) (h : Hq Q → P := by (intro k_; have HMC := Lib.hid hmc; have H64 := Lib.hid (show mc.size = 64 by rw [← hmc, List.size_toArray]; exact machL_length h8); revert H64; revert HMC; exact k_.out)) : P := h ⟨k⟩
theorem am161 {P Q : Prop} (k : Q) (h : Hq Q → P := by (intro k_; refine am95 ?_; (refine tk 13 ?_; (try simp only [np, Act.put])); exact k_.out)) : P := h ⟨k⟩
theorem am163 {P Q : Prop} (k : Q) (h : Hq Q → P := by (intro k_; have q : ∀ j, j < 7 → (machL m.regs m.code va vs vo).toArray[b * 7 + j]? = (encV v)[j]? := fun j hj => regs_at h8 hv j hj; refine am114 ?_; intro q0 q1 q2 q3 q4 q5 q6; simp only [encV, List.getElem?_cons_zero, List.getElem?_cons_succ, Nat.add_zero] at q0 q1 q2 q3 q4 q5 q6; clear q; revert q6; revert q5; revert q4; revert q3; revert q2; revert q1; revert q0; exact k_.out)) : P := h ⟨k⟩
theorem am167 {P Q : Prop} (k : Q) (h : Hq Q → P := by (intro k_; refine stepI rfl (wpI_storeW _ _ _ rfl hI rfl 5 rfl rfl rfl (by kernel_rfl) (by simp [Value.oneCell']) fun w' hI' => hK.out _ _ (hI'.held (by simp)) (fun hHeld => ?_)); revert hHeld; revert hI'; revert w'; exact k_.out)) : P := h ⟨k⟩
theorem am197 {P Q : Prop} (k : Q) (h : Hq Q → P := by (intro k_; have hbl := H0.out.same (ts := [_]) hI (by simp); refine (c_number_ok (HP.out.on hbl) a x hx ha8 hxi).mono ?_; rintro ed w1 ⟨rfl, hb1⟩; have hI' := hI.on hb1; revert hI'; revert hb1; revert w1; revert hbl; exact k_.out)) : P := h ⟨k⟩
open Go.RowKit
set_option maxRecDepth 100000
section
variable {P : Program}
end
section
variable {P : Program} {o : Oper} {a : Act} {T : Nat → Prop} {w0 w : World} {rs : List Res} {K : Act → World → Prop} {Q : Exit → Act → World → Prop}
end
section
variable {T : Nat → Prop} {w0 w : World} {rs : List Res}
theorem InvT.rowBox (h : InvT T w0 rs w) {i g n cap size : Nat} {e : TypeId} {us : List Value} (hi : rs[i]? = some (.row e size (.slice (some ⟨g, 0, none⟩) n cap) n us)) : ∃ cur, InvT T w0 (rs.set i (.box g e cur)) w ∧ cur.size = cap * size ∧ n ≤ cap ∧ cap ≤ maxLen ∧ us.length = n * size ∧ ∀ (j : Nat) v, us[j]? = some v → cur[j]? = some v := by
  have ho := h.ok i _ hi
  rcases ho.2 with ⟨hn, _⟩ | ⟨g', cap', cur, hv, _, hg, h1, h2, h3, h4⟩
  · cases hn
  · cases hv
    refine ⟨cur, h.turn hi (World.grownBy.refl w none) (fun k hk => by cases hk) (show Box w g e cur from hg) (fun k hk => .inl hk), h3, h1, h2, ho.1, fun j v hj => ?_⟩
    rw [← h4, List.getElem?_take] at hj
    split at hj
    · simpa using hj
    · cases hj
theorem InvT.rowBox' (h : InvT T w0 rs w) {i n cap size : Nat} {A : Option Addr} {e : TypeId} {us : List Value} (hi : rs[i]? = some (.row e size (.slice A n cap) n us)) (h0 : 0 < n) : ∃ g cur, A = some ⟨g, 0, none⟩ ∧ InvT T w0 (rs.set i (.box g e cur)) w ∧ cur.size = cap * size ∧ n ≤ cap ∧ cap ≤ maxLen ∧ us.length = n * size ∧ ∀ (j : Nat) v, us[j]? = some v → cur[j]? = some v := by
  obtain ⟨g, rfl⟩ : ∃ g, A = some ⟨g, 0, none⟩ := by
    rcases (h.ok i _ hi).2 with ⟨_, h1⟩ | ⟨g, c, cur, hv, _⟩
    · omega
    · cases hv; exact ⟨g, rfl⟩
  obtain ⟨cur, h1⟩ := h.rowBox hi
  exact ⟨g, cur, rfl, h1⟩
theorem InvT.boxRow (h : InvT T w0 rs w) {i g n cap size : Nat} {e : TypeId} {cur : Array Value} {us : List Value} (hi : rs[i]? = some (.box g e cur)) (hc : cur.size = cap * size) (hn : n ≤ cap) (hm : cap ≤ maxLen) (hu : us.length = n * size) (hus : ∀ (j : Nat) v, us[j]? = some v → cur[j]? = some v) : InvT T w0 (rs.set i (.row e size (.slice (some ⟨g, 0, none⟩) n cap) n us)) w := by
  refine h.turn hi (World.grownBy.refl w none) (fun k hk => by cases hk) ⟨hu, .inr ⟨g, cap, cur, rfl, Nat.zero_le _, h.box hi, hn, hm, hc, ?_⟩⟩ (fun k hk => .inl hk)
  apply List.ext_getElem?
  intro j
  rw [List.getElem?_take]
  split
  · obtain ⟨v, hv⟩ : ∃ v, us[j]? = some v := ⟨_, List.getElem?_eq_getElem (by omega)⟩
    rw [hv]
    simpa using hus j v hv
  · rw [List.getElem?_eq_none (by omega)]
end
end Go.Proofs.YthmpnnfejghhfaaGreatDoor
namespace Go.Proofs.YthmpnnfejghhfaaGreatDoor
open Go.RowKit
set_option maxRecDepth 100000
theorem InvT.cut {T : Nat → Prop} {w0 w : World} {rs : List Res} (h : InvT T w0 rs w) {i n k cap size : Nat} {A : Option Addr} {e : TypeId} {us : List Value} (hi : rs[i]? = some (.row e size (.slice A n cap) n us)) (hn : 0 < n) (hk : k ≤ n) :
    InvT T w0 (rs.set i (.row e size (.slice A k cap) k (us.take (k * size)))) w := by
  have ho := h.ok i _ hi
  have hb : ∀ q, (Value.slice A k cap).ownBlock = some q → (Value.slice A n cap).ownBlock = some q := fun q hq => by
    cases A with
    | none => simp [Value.ownBlock] at hq
    | some a => exact hq
  refine h.turn hi (World.grownBy.refl w none) (fun k hk => by cases hk) ?_ (fun q hq => .inl (hb q hq))
  refine ⟨?_, ?_⟩
  · rw [List.length_take, ho.1]
    exact Nat.min_eq_left (Nat.mul_le_mul_right _ hk)
  · rcases ho.2 with ⟨hv, h0⟩ | ⟨g, c, cur, hv, h1, h2, h3, h4, h5, h6⟩
    · omega
    · cases hv
      refine .inr ⟨g, cap, cur, rfl, h1, h2, by omega, h4, h5, ?_⟩
      rw [← h6, List.take_take, Nat.min_eq_left (Nat.mul_le_mul_right _ hk)]
section
variable {T : Nat → Prop} {w0 w : World} {gm gs : Nat} {m : Mach} {i : Inst}
theorem StAt.cellS (h : StAt T w0 gm gs m i w) (o : Nat) : w.cell? ⟨gs, o, none⟩ = #[.pointer (some ⟨gm, 0, none⟩), .int .i64 i.op, .int .i64 i.a, .int .i64 i.b, .int .i64 i.c][o]? := by
  obtain ⟨h8, va, vs, vo, hI⟩ := h
  exact InvT.cell (i := 1) hI rfl o
theorem c_numbers_ok (h : StAt T w0 gm gs m i w) (fv : Value) (F : FuncId) (hf : fv = .func (.func F) #[] #[]) (b c r : Nat) (vb vc : Val) (x : Int) (hb : b < 8) (hc : c < 8) (hr : r < 8) (hib : i.b = b) (hic : i.c = c) (hia : i.a = r) (hvb : m.regs[b]? = some vb) (hvc : m.regs[c]? = some vc) (h1 : vb.is = false) (h2 : vc.is = false)
    (eg : ∀ args w, (callFunc F args).run Tryz.prog w = .ok (.enter F args) w)
    (hF : ∀ w, Calls Tryz.prog F #[.int .i64 vb.n, .int .i64 vc.n] w (Ret (.int .i64 x) w)) :
    Calls Tryz.prog 93 #[.pointer (some ⟨gs, 0, none⟩), fv] w fun ed w' => ed = .returned (.tuple #[]) ∧ StAt T w0 gm gs (setN m r x) i w' := by
  subst hf
  have hP := h; obtain ⟨io, ia, ib, ic⟩ := i; dsimp only at hib hic hia
  subst hib hic hia
  have c1 := h.cellS; have HP := Lib.hid hP; have HF := Lib.hid hF; clear hP hF h
  go_enter Tryz.func93, Tryz.ntmps93
  go_wp2_with (first
    | (go_at_call 79; refine (c_number_ok HP1.out c vc hvc hc h2).mono ?_; rintro ed w2 ⟨rfl, hb2⟩; have HP2 := Lib.hid (HP1.out.on hb2); clear c1; have c1 := HP2.out.cellS)
    | (go_at_call 79; refine (c_number_ok HP.out b vb hvb hb h1).mono ?_; rintro ed w1 ⟨rfl, hb1⟩; have HP1 := Lib.hid (HP.out.on hb1); clear c1; have c1 := HP1.out.cellS)
    | (go_at_fn F; refine (HF.out _).mono ?_; rintro ed w3 ⟨rfl, hb3⟩; have HP3 := Lib.hid (HP2.out.on hb3); clear c1; have c1 := HP3.out.cellS)
    | (go_at_call 92; refine (c_setNumber HP3.out x r hr rfl).mono ?_; rintro ed w4 ⟨rfl, hP4⟩)
    | fail)
  go_end0
  exact ⟨rfl, hP4⟩
theorem c_numbers_err1 (h : StAt T w0 gm gs m i w) (fv : Value) (b : Nat) (vb : Val) (hb : b < 8) (hib : i.b = b) (hvb : m.regs[b]? = some vb) (h1 : vb.is = true) :
    Calls Tryz.prog 93 #[.pointer (some ⟨gs, 0, none⟩), fv] w (Thr 10 w) := by
  have hP := h; obtain ⟨io, ia, ib, ic⟩ := i; dsimp only at hib
  subst hib
  have c1 := h.cellS; have HP := Lib.hid hP; clear hP h
  go_enter Tryz.func93, Tryz.ntmps93
  go_wp2_with (first
    | (go_at_call 79; refine (c_number_err HP.out b vb hvb hb h1).mono ?_; rintro ed w1 ⟨rfl, hb1⟩)
    | fail)
  exact ⟨rfl, rfl, hb1⟩
theorem c_numbers_err2 (h : StAt T w0 gm gs m i w) (F : FuncId) (b c : Nat) (vb vc : Val) (hb : b < 8) (hc : c < 8) (hib : i.b = b) (hic : i.c = c) (hvb : m.regs[b]? = some vb) (hvc : m.regs[c]? = some vc) (h1 : vb.is = false) (h2 : vc.is = true) :
    Calls Tryz.prog 93 #[.pointer (some ⟨gs, 0, none⟩), .func (.func F) #[] #[]] w (Thr 10 w) := by
  have hP := h; obtain ⟨io, ia, ib, ic⟩ := i; dsimp only at hib hic
  subst hib hic
  have c1 := h.cellS; have HP := Lib.hid hP; clear hP h
  go_enter Tryz.func93, Tryz.ntmps93
  go_wp2_with (first
    | (go_at_call 79; refine (c_number_err HP1.out c vc hvc hc h2).mono ?_; rintro ed w2 ⟨rfl, hb2⟩)
    | (go_at_call 79; refine (c_number_ok HP.out b vb hvb hb h1).mono ?_; rintro ed w1 ⟨rfl, hb1⟩; have hz1 := hb1.size; have HP1 := Lib.hid (HP.out.on hb1); clear c1; have c1 := HP1.out.cellS)
    | fail)
  exact ⟨rfl, rfl, bel⟩
theorem c_back_err (h : StAt T w0 gm gs m i w) (h0 : m.stack = []) :
    Calls Tryz.prog 81 #[.pointer (some ⟨gs, 0, none⟩)] w (Thr 16 w) := by
  obtain ⟨h8, va, vs, vo, hI⟩ := id h
  have p62 : (machL m.regs m.code va vs vo).toArray[62]? = some vs := by rw [List.getElem?_toArray]; exact machL_62 h8
  have hv := (InvT.own0 (enc := encF) (xs := m.stack) (size := 12) hI (i := 3) rfl).form; have hJ := InvT.enter (rc := [_, _]) (ts := [_, _, _]) hI; clear hI; have hI := hJ; clear hJ
  generalize (machL m.regs m.code va vs vo).toArray = mc at *
  obtain ⟨A, cp, rfl⟩ := hv
  rw [h0] at p62
  have H0 := Lib.hid hI; have hw1 : IntKind.i64.wrap (-1) = -1 := (by decide)
  go_enter Tryz.func81, Tryz.ntmps81
  have cF := hI.facts; (try simp only [mm] at cF)
  go_wp2_with (first | (go_at_call 76; refine (c_must_err 16 (by decide) _).mono ?_; rintro ed w' ⟨rfl, rfl⟩) | fail)
  exact ⟨rfl, rfl, H0.out.same (ts := []) hI (by simp)⟩
theorem c_back_ok (h : StAt T w0 gm gs m i w) (xs : List Frame) (f : Frame) (h0 : m.stack = xs ++ [f]) (hlen : m.stack.length ≤ 1000) :
    Calls Tryz.prog 81 #[.pointer (some ⟨gs, 0, none⟩)] w fun ed w' => ed = .returned (.tuple #[]) ∧ StAt T w0 gm gs (backF m).1 i w' := by
  obtain ⟨h8, va, vs, vo, hI⟩ := id h; unfold stR at hI; obtain ⟨A, cp, hv⟩ := (InvT.own0 (enc := encF) (xs := m.stack) (size := 12) hI (i := 3) rfl).form
  subst hv
  have hn : m.stack.length = xs.length + 1 := by rw [h0]; simp
  rw [hn] at hI
  obtain ⟨g, cur, rfl, hI', hcs, hnc, hcm, hul, hus⟩ := hI.rowBox' (i := 3) (n := xs.length + 1) rfl (by omega)
  clear hI; have hI := hI'; clear hI'; (try simp only [List.cons_append, List.nil_append, List.set_cons_zero, List.set_cons_succ, List.setIfInBounds_toArray, Act.put, Act.eval, Array.getD_eq_getD_getElem?, List.getElem?_toArray, List.getElem?_cons_zero, List.getElem?_cons_succ, Option.getD_some] at hI)
  have p62 : (machL m.regs m.code va (.slice (some ⟨g, 0, none⟩) (xs.length + 1) cp) vo).toArray[62]? = some (.slice (some ⟨g, 0, none⟩) (xs.length + 1) cp) := by rw [List.getElem?_toArray]; exact machL_62 h8
  have hxf : m.stack[xs.length]? = some f := by rw [h0]; simp
  have q : ∀ j, j < 12 → cur[xs.length * 12 + j]? = (encF f)[j]? := fun j hj => by
    have e := flat_at (enc := encF) (size := 12) (fun _ => rfl) hxf hj
    obtain ⟨v, hv⟩ : ∃ v, (encF f)[j]? = some v := ⟨_, List.getElem?_eq_getElem (by exact hj)⟩
    rw [hv] at e ⊢
    exact hus _ _ e
  refine am114 ?_; intro q0 q1 q2 q3 q4 q5 q6; have q7 := q 7 (by decide); have q8 := q 8 (by decide); have q9 := q 9 (by decide); have q10 := q 10 (by decide); have q11 := q 11 (by decide); simp only [encF, List.getElem?_cons_zero, List.getElem?_cons_succ, Nat.add_zero] at q0 q1 q2 q3 q4 q5 q6 q7 q8 q9 q10 q11; clear q
  obtain ⟨mc, hmc⟩ : ∃ mc, (machL m.regs m.code va (.slice (some ⟨g, 0, none⟩) (xs.length + 1) cp) vo).toArray = mc := ⟨_, rfl⟩
  have h64 : mc.size = 64 := by rw [← hmc, List.size_toArray]; exact machL_length h8
  rw [hmc] at hI p62
  have HMC := Lib.hid hmc; have H64 := Lib.hid h64; have HUS := Lib.hid hus; have H0 := Lib.hid h0; have hlx : xs.length ≤ 1000 := (by omega); have hxc : xs.length ≤ cp := (by omega); have hcx : ¬ cp = 0 := (by omega); clear hmc h64 hus hul h0 hn hxf h hlen
  go_enter Tryz.func81, Tryz.ntmps81
  have cF := hI.facts; (try simp only [mm] at cF)
  go_wp2_with (first | (refine lv 73 hI Tryz.zeroValue73 fun gx w' hI' hb => ?_; (try clear hb); refine am92 ?_; clear hI hI'; (try clear cF); intro hI cF) | (refine listI rfl fun K hK => wpI_store1 _ _ _ rfl hI rfl 0 rfl rfl rfl (by rw [H64.out]; decide) (by kernel_rfl) fun w' hI' => hK _ _ ?_; clear hK K; (try clear hb); refine am92 ?_; clear hI hI'; (try clear cF); intro hI cF) | fail)
  (refine wp_region_KG 15 [0, 1] (by kernel_rfl) hI fun w' hI' hHeld => ?_; (try clear hb); refine am92 ?_; clear hI hI'; (try clear cF); intro hI cF)
  refine am102 ?_; (refine tg 12 ?_; (try simp only [np, Act.put])); (refine tg 13 ?_; (try simp only [np, Act.put])); (refine tg 14 ?_; (try simp only [np, Act.put])); refine oneGs (i := 15) (by kernel_rfl) rfl (by kernel_rfl) (fun K hK => ?_)
  (refine am141 ?_; intro w' hI'; clear hK K; (try clear hb); refine am103 ?_; clear hI hI'; (try clear cF); intro hI cF)
  refine doneG (by kernel_rfl) ?_ _
  go_wp2_with fail
  (refine wp_region_K [1, 5] (by kernel_rfl) hI fun w' hI' hHeld => ?_; (try clear hb); refine am92 ?_; clear hI hI'; (try clear cF); intro hI cF)
  refine am161 ?_; (refine tk 15 ?_; (try simp only [np, Act.put])); (refine tk 16 ?_; (try simp only [np, Act.put])); refine oneH (i := 14) (by kernel_rfl) rfl (fun K hK => ?_)
  (refine am143 ?_; intro w' hI' hHeld; clear hK K; (try clear hb); refine am103 ?_; clear hI hI'; (try clear cF); intro hI cF)
  (refine tk 17 ?_; (try simp only [np, Act.put])); refine oneH (i := 18) (by kernel_rfl) rfl (fun K hK => ?_)
  (refine am136 ?_; intro w' hI' hHeld; clear hK K; (try clear hb); refine am103 ?_; clear hI hI'; (try clear cF); intro hI cF)
  refine wpAnyH_done (by kernel_rfl) ?_ _; clear hHeld
  go_wp2_with fail
  go_end0
  have hbk : (backF m).1 = { m with regs := m.regs.set 7 f.data, code := f.code, stack := xs } := (by simp [backF, H0.out])
  rw [hbk]
  have hI2 := hI.boxRow (i := 3) (n := xs.length) (cap := cp) (size := 12) (us := xs.flatMap encF) rfl hcs hxc hcm (flat_len (fun _ => rfl)) (fun j v hj => HUS.out j v (by rw [H0.out, List.flatMap_append, List.getElem?_append_left (getElem?_lt hj)]; exact hj))
  have hbox : setMany (setMany (mc.setIfInBounds 62 (.slice (some ⟨g, 0, none⟩) xs.length cp)).toList 56 [.int .i64 f.code.perm, .int .i64 f.code.base, .int .i64 f.code.len, .int .i64 f.code.pos, .int .i64 f.code.tag]) 49 [.bool f.data.is, .int .i64 f.data.n, .int .i64 f.data.key.perm, .int .i64 f.data.key.base, .int .i64 f.data.key.len, .int .i64 f.data.key.pos, .int .i64 f.data.key.tag] = machL (m.regs.set 7 f.data) f.code va (.slice (some ⟨g, 0, none⟩) xs.length cp) vo := by
    rw [← HMC.out, List.setIfInBounds_toArray, machL_stack h8, machL_putCode h8]
    exact machL_putReg h8 (i := 7) (by decide) f.data
  have hI3 := hI2.first [_, _, _, _, _] [_] rfl
  rw [hbox] at hI3
  exact ⟨rfl, by simp [h8], va, .slice (some ⟨g, 0, none⟩) xs.length cp, vo, hI3⟩
end
end Go.Proofs.YthmpnnfejghhfaaGreatDoor
namespace Go.Proofs.YthmpnnfejghhfaaGreatDoor
open Go.RowKit
set_option maxRecDepth 100000
section
variable {T : Nat → Prop} {w0 w : World} {gm gs : Nat} {m : Mach} {i : Inst}
theorem c_ask_zero (h : StAt T w0 gm gs m i w) (b r : Nat) (v : Val) (hb : b < 8) (hr : r < 8) (hib : i.b = b) (hia : i.a = r) (hic : i.c = 0) (hv : m.regs[b]? = some v) :
    Calls Tryz.prog 100 #[.pointer (some ⟨gs, 0, none⟩)] w fun ed w' => ed = .returned (.tuple #[]) ∧ StAt T w0 gm gs (setN m r (truthOf v.is)) i w' := by
  obtain ⟨io, ia, ib, ic⟩ := i; dsimp only at hib hic hia
  subst hib hic hia
  obtain ⟨h8, va, vs, vo, hI⟩ := h; unfold stR at hI; refine am163 ?_; intro q0 q1 q2 q3 q4 q5 q6
  obtain ⟨mc, hmc⟩ : ∃ mc, (machL m.regs m.code va vs vo).toArray = mc := ⟨_, rfl⟩
  rw [hmc] at hI q0 q1 q2 q3 q4 q5 q6
  have HMC := Lib.hid hmc; clear hmc; have hbz : (b : Int) < 8 := (by omega)
  go_enter Tryz.func100, Tryz.ntmps100
  have cF := hI.facts; (try simp only [mm] at cF)
  go_wp2_with fail
  (refine wp_region_K [0, 1] (by kernel_rfl) hI fun w' hI' hHeld => ?_; (try clear hb); refine am92 ?_; clear hI hI'; (try clear cF); intro hI cF)
  refine am95 ?_; refine oneH (i := 13) (by kernel_rfl) rfl (fun K hK => ?_); (refine am96 ?_; clear hK K hI; (try clear cF); intro gx w' hHeld hI cF); refine oneH (i := 14) (by kernel_rfl) rfl (fun K hK => ?_)
  (refine am167 ?_; intro w' hI' hHeld; clear hK K; (try clear hb); refine am103 ?_; clear hI hI'; (try clear cF); intro hI cF)
  refine wpAnyH_done (by kernel_rfl) ?_ _; clear hHeld; have hP : StAt T w0 gm gs m ⟨io, r, b, 0⟩ _ := ⟨h8, va, vs, vo, by have h2 := hI.first [_, _, _, _, _] [_] rfl; rw [← HMC.out] at h2; exact h2⟩; have HP := Lib.hid hP; clear hP
  cases hvi : v.is
  · rw [hvi] at hI
    refine am160 ?_; (try clear cF); intro cF
    go_wp2_with (first | (go_at_call 92; refine (c_setNumber HP.out 0 r hr rfl).mono ?_; rintro ed w4 ⟨rfl, hP4⟩) | fail)
    first | go_end0 | refine bodyPost_ret (results_none rfl _ _ _) rfl ?_
    exact ⟨rfl, by rw [hvi]; exact hP4⟩
  · rw [hvi] at hI
    refine am160 ?_; (try clear cF); intro cF
    go_wp2_with (first | (go_at_call 92; refine (c_setNumber HP.out 1 r hr rfl).mono ?_; rintro ed w4 ⟨rfl, hP4⟩) | fail)
    first | go_end0 | refine bodyPost_ret (results_none rfl _ _ _) rfl ?_
    exact ⟨rfl, by rw [hvi]; exact hP4⟩
end
end Go.Proofs.YthmpnnfejghhfaaGreatDoor
namespace Go.Proofs.YthmpnnfejghhfaaGreatDoor
open Go.RowKit
set_option maxRecDepth 100000
def Stp (T : Nat → Prop) (w0 : World) (gm gs : Nat) (i : Inst) (w : World) (p : Mach × Int) : Ending → World → Prop := fun ed w' =>
  (p.2 = 0 ∧ ed = .returned (.tuple #[]) ∧ StAt T w0 gm gs p.1 i w') ∨ (¬ p.2 = 0 ∧ Thr p.2 w ed w')
section
variable {T : Nat → Prop} {w0 w : World} {gm gs : Nat} {m : Mach} {i : Inst}
theorem Stp.okd {p : Mach × Int} {q : Mach} {F : FuncId} {args : Array Value} (e : p = (q, 0)) (h : Calls Tryz.prog F args w fun ed w' => ed = .returned (.tuple #[]) ∧ StAt T w0 gm gs q i w') : Calls Tryz.prog F args w (Stp T w0 gm gs i w p) := by
  subst e
  exact h.mono fun ed w' h => .inl ⟨rfl, h⟩
theorem Stp.bad {p : Mach × Int} {q : Mach} {e : Int} {F : FuncId} {args : Array Value} (hp : p = (q, e)) (he : ¬ e = 0) (h : Calls Tryz.prog F args w (Thr e w)) : Calls Tryz.prog F args w (Stp T w0 gm gs i w p) := by
  subst hp
  exact h.mono fun ed w' h => .inr ⟨he, h⟩
theorem reg_nat (h8 : m.regs.length = 8) {x : Int} (h : 0 ≤ x ∧ x ≤ 7) : ∃ n : Nat, x = n ∧ n < 8 ∧ m.regs[n]? = some (regV m x) := by
  refine ⟨x.toNat, by omega, by omega, ?_⟩; unfold regV
  rw [List.getD_eq_getElem?_getD, List.getElem?_eq_getElem (by omega)]
  rfl
theorem StAt.of {mc : Array Value} {va vs vo : Value} (h8 : m.regs.length = 8) (HMC : Hid ((machL m.regs m.code va vs vo).toArray = mc)) (ts : List Res)
    (hI : InvT T w0 ([.box gm 31 mc, .box gs 99 #[.pointer (some ⟨gm, 0, none⟩), .int .i64 i.op, .int .i64 i.a, .int .i64 i.b, .int .i64 i.c], .row 25 7 va m.mem.length (m.mem.flatMap encV), .row 73 12 vs m.stack.length (m.stack.flatMap encF), .row 3 1 vo m.out.length (m.out.flatMap encI)] ++ ts) w) : StAt T w0 gm gs m i w := by
  refine ⟨h8, va, vs, vo, ?_⟩; unfold stR
  rw [HMC.out]
  exact hI.first _ ts rfl
theorem ask_index (k : Key) (c : Int) (h1 : 1 ≤ c) (h5 : c ≤ 5) (w : World) : (Instr.index 140 (.agg #[.int .i64 k.perm, .int .i64 k.base, .int .i64 k.len, .int .i64 k.pos, .int .i64 k.tag]) (.int .i64 (IntKind.i64.wrap (c - 1)))).run Tryz.prog w = .ok (.int .i64 (askF k c)) w := by
  rcases (show c = 1 ∨ c = 2 ∨ c = 3 ∨ c = 4 ∨ c = 5 by omega) with rfl | rfl | rfl | rfl | rfl
  all_goals
    rw [IntWalk.i64_left]
    simp [Instr.index, asIntOf, run_underlying Tryz.underlying140, part, Tryz.isAgg3, Tryz.sizeOf3, askF, wrap64]
theorem c_ask_pos (h : StAt T w0 gm gs m i w) (b r : Nat) (c : Int) (v : Val) (hB8 : b < 8) (hr : r < 8) (hib : i.b = b) (hia : i.a = r) (hic : i.c = c) (hc1 : 1 ≤ c) (hc5 : c ≤ 5) (hv : m.regs[b]? = some v) (hvi : v.is = true) :
    Calls Tryz.prog 100 #[.pointer (some ⟨gs, 0, none⟩)] w fun ed w' => ed = .returned (.tuple #[]) ∧ StAt T w0 gm gs (setN m r (askF v.key c)) i w' := by
  obtain ⟨io, ia, ib, ic⟩ := i; dsimp only at hib hic hia
  subst hib hic hia
  obtain ⟨h8, va, vs, vo, hI⟩ := h; unfold stR at hI; refine am163 ?_; intro q0 q1 q2 q3 q4 q5 q6
  obtain ⟨mc, hmc⟩ : ∃ mc, (machL m.regs m.code va vs vo).toArray = mc := ⟨_, rfl⟩
  rw [hmc] at hI q0 q1 q2 q3 q4 q5 q6
  have HMC := Lib.hid hmc; clear hmc; have hbz : (b : Int) < 8 := (by omega); have hcz : ¬ ic = 0 := (by omega)
  go_enter Tryz.func100, Tryz.ntmps100
  have cF := hI.facts; (try simp only [mm] at cF)
  go_wp2_with fail
  (refine wp_region_K [0, 1] (by kernel_rfl) hI fun w' hI' hHeld => ?_; (try clear hb); refine am92 ?_; clear hI hI'; (try clear cF); intro hI cF)
  refine am95 ?_; refine oneH (i := 13) (by kernel_rfl) rfl (fun K hK => ?_); (refine am96 ?_; clear hK K hI; (try clear cF); intro gx w' hHeld hI cF); refine oneH (i := 14) (by kernel_rfl) rfl (fun K hK => ?_)
  (refine am167 ?_; intro w' hI' hHeld; clear hK K; (try clear hb); refine am103 ?_; clear hI hI'; (try clear cF); intro hI cF)
  refine wpAnyH_done (by kernel_rfl) ?_ _; clear hHeld; have HP := Lib.hid (StAt.of (i := ⟨io, r, b, ic⟩) h8 HMC [_] hI)
  go_wp2_with (first
    | (go_at_call 91; refine (c_key_ok HP.out b v hv hB8 hvi).mono ?_; rintro ed w1 ⟨rfl, hb1⟩; have HP1 := Lib.hid (HP.out.on hb1); have hI' := hI.on hb1; (try clear hb); refine am92 ?_; clear hI hI'; (try clear cF); intro hI cF)
    | (refine lv 23 hI Tryz.zeroValue23 fun gx w' hI' hb => ?_; (try clear hb); refine am92 ?_; clear hI hI'; (try clear cF); intro hI cF) | fail)
  clear HP HP1; have hix := ask_index v.key ic hc1 hc5
  (refine wp_region_KG 19 [1, 6] (by kernel_rfl) hI fun w' hI' hHeld => ?_; (try clear hb); refine am92 ?_; clear hI hI'; (try clear cF); intro hI cF)
  have HP := Lib.hid (StAt.of (i := ⟨io, r, b, _⟩) h8 HMC [_, _] hI); refine am127 ?_; refine oneGs (i := 19) (by kernel_rfl) rfl (by kernel_rfl) (fun K hK => ?_); go_simp; refine (c_setNumber HP.out _ r hr rfl).mono ?_; rintro ed w4 ⟨rfl, hP4⟩; refine hK.out _ _ ?_; clear hK hI; (try clear cF); skip; refine doneG (by kernel_rfl) ?_ _
  go_wp2_with fail
  first | go_end0 | refine bodyPost_ret (results_none rfl _ _ _) rfl ?_
  exact ⟨rfl, hP4⟩
theorem c_ask_err (h : StAt T w0 gm gs m i w) (b r : Nat) (c : Int) (v : Val) (hB8 : b < 8) (hib : i.b = b) (hic : i.c = c) (hc1 : 1 ≤ c) (hv : m.regs[b]? = some v) (hvi : v.is = false) :
    Calls Tryz.prog 100 #[.pointer (some ⟨gs, 0, none⟩)] w (Thr 10 w) := by
  obtain ⟨io, ia, ib, ic⟩ := i; dsimp only at hib hic
  subst hib hic
  obtain ⟨h8, va, vs, vo, hI⟩ := h.two; refine am163 ?_; intro q0 q1 q2 q3 q4 q5 q6
  obtain ⟨mc, hmc⟩ : ∃ mc, (machL m.regs m.code va vs vo).toArray = mc := ⟨_, rfl⟩
  rw [hmc] at hI q0 q1 q2 q3 q4 q5 q6
  have HP := Lib.hid h; have H0 := Lib.hid hI; clear hmc h; have hbz : (b : Int) < 8 := (by omega); have hcz : ¬ ic = 0 := (by omega)
  go_enter Tryz.func100, Tryz.ntmps100
  have cF := hI.facts; (try simp only [mm] at cF)
  go_wp2_with fail
  (refine wp_region_K [0, 1] (by kernel_rfl) hI fun w' hI' hHeld => ?_; (try clear hb); refine am92 ?_; clear hI hI'; (try clear cF); intro hI cF)
  refine am95 ?_; refine oneH (i := 13) (by kernel_rfl) rfl (fun K hK => ?_); (refine am96 ?_; clear hK K hI; (try clear cF); intro gx w' hHeld hI cF); refine oneH (i := 14) (by kernel_rfl) rfl (fun K hK => ?_)
  (refine stepI rfl (wpI_storeW _ _ _ rfl hI rfl 2 rfl rfl rfl (by kernel_rfl) (by simp [Value.oneCell']) fun w' hI' => hK.out _ _ (hI'.held (by simp)) (fun hHeld => ?_)); clear hK K; (try clear hb); refine am103 ?_; clear hI hI'; (try clear cF); intro hI cF)
  refine wpAnyH_done (by kernel_rfl) ?_ _; clear hHeld; have hbl := H0.out.same (ts := [_]) hI (by simp); have HP1 := Lib.hid (HP.out.on hbl)
  go_wp2_with (first
    | (go_at_call 91; refine (c_key_err HP1.out b v hv hB8 hvi).mono ?_; rintro ed w1 ⟨rfl, hb1⟩)
    | fail)
  exact ⟨rfl, rfl, Below.trans hbl (Below.mono hb1 hbl.size)⟩
theorem c_ask (h : StAt T w0 gm gs m i w) (ha : 0 ≤ i.a ∧ i.a ≤ 7) (hB : 0 ≤ i.b ∧ i.b ≤ 7) (hc : 0 ≤ i.c ∧ i.c ≤ 5) (hop : i.op = 17) :
    Calls Tryz.prog 100 #[.pointer (some ⟨gs, 0, none⟩)] w (Stp T w0 gm gs i w (plainF i m)) := by
  obtain ⟨a, ha', ha8, hva⟩ := reg_nat h.1 ha; obtain ⟨b, hb', hb8, hvb⟩ := reg_nat h.1 hB
  have e : plainF i m = if i.c = 0 then (setN m i.a (truthOf (regV m i.b).is), 0) else if (regV m i.b).is = true then (setN m i.a (askF (regV m i.b).key i.c), 0) else (m, 10) := by
    unfold plainF
    rw [hop]
    rfl
  by_cases hz : i.c = 0
  · rw [if_pos hz, ha'] at e
    exact Stp.okd e (c_ask_zero h b a _ hb8 ha8 hb' ha' hz hvb)
  · rw [if_neg hz] at e
    cases hv : (regV m i.b).is
    · rw [hv, if_neg (by simp)] at e
      exact Stp.bad e (by decide) (c_ask_err h b a i.c _ hb8 hb' rfl (by omega) hvb hv)
    · rw [hv, if_pos rfl, ha'] at e
      exact Stp.okd e (c_ask_pos h b a i.c _ hb8 ha8 hb' ha' rfl (by omega) hc.2 hvb hv)
end
end Go.Proofs.YthmpnnfejghhfaaGreatDoor
namespace Go.Proofs.YthmpnnfejghhfaaGreatDoor
open Go.RowKit
set_option maxRecDepth 100000
def clrN (regs : List Val) (c : Int) : Nat → List Val
  | 0 => regs
  | k + 1 => if c / 2 ^ k % 2 = 1 then (clrN regs c k).set k Val.zero else clrN regs c k
theorem clrN_length (regs : List Val) (c : Int) : ∀ k, (clrN regs c k).length = regs.length
  | 0 => rfl
  | k + 1 => by
    unfold clrN
    split
    · rw [List.length_set]; exact clrN_length regs c k
    · exact clrN_length regs c k
theorem clrN_at (regs : List Val) (c : Int) (j : Nat) (hj : j < regs.length) : ∀ k, (clrN regs c k)[j]? = if j < k ∧ c / 2 ^ j % 2 = 1 then some Val.zero else regs[j]?
  | 0 => by rw [if_neg (by omega)]; rfl
  | k + 1 => by
    have ih := clrN_at regs c j hj k
    unfold clrN
    split
    · rename_i hc
      rw [List.getElem?_set, ih]
      by_cases hk : k = j
      · subst hk
        rw [if_pos rfl, if_pos (by rw [clrN_length]; exact hj), if_pos ⟨by omega, hc⟩]
      · rw [if_neg hk]
        by_cases hb : c / 2 ^ j % 2 = 1
        · by_cases hl : j < k
          · rw [if_pos ⟨hl, hb⟩, if_pos ⟨by omega, hb⟩]
          · rw [if_neg (by omega), if_neg (by omega)]
        · rw [if_neg (fun h => hb h.2), if_neg (fun h => hb h.2)]
    · rename_i hc
      rw [ih]
      by_cases hb : c / 2 ^ j % 2 = 1
      · have : k ≠ j := fun h => hc (h ▸ hb)
        by_cases hl : j < k
        · rw [if_pos ⟨hl, hb⟩, if_pos ⟨by omega, hb⟩]
        · rw [if_neg (by omega), if_neg (by omega)]
      · rw [if_neg (fun h => hb h.2), if_neg (fun h => hb h.2)]
theorem clrN_all (m : Mach) (c : Int) (h8 : m.regs.length = 8) : clrN m.regs c 8 = (clearF m c).regs := by
  apply List.ext_getElem?
  intro j
  rcases Nat.lt_or_ge j 8 with hj | hj
  · rw [clrN_at _ _ _ (by omega)]
    unfold clearF
    rw [List.getElem?_map, List.getElem?_range hj]
    simp only [Option.map_some, hj, true_and]
    split
    · rfl
    · rw [List.getD_eq_getElem?_getD, List.getElem?_eq_getElem (by omega)]; rfl
  · rw [List.getElem?_eq_none (by rw [clrN_length]; omega), List.getElem?_eq_none (by simp [clearF]; omega)]
theorem clrN_yes {regs : List Val} {c : Int} {k : Nat} (h : c / 2 ^ k % 2 = 1) : clrN regs c (k + 1) = (clrN regs c k).set k Val.zero := by rw [clrN, if_pos h]
theorem clrN_no {regs : List Val} {c : Int} {k : Nat} (h : ¬ c / 2 ^ k % 2 = 1) : clrN regs c (k + 1) = clrN regs c k := by rw [clrN, if_neg h]
section
variable {T : Nat → Prop} {w0 w : World} {gm gs : Nat} {m : Mach} {i : Inst}
set_option maxHeartbeats 2000000 in
theorem c_plain_clear (h : StAt T w0 gm gs m i w) (hop : i.op = 21) :
    Calls Tryz.prog 82 #[.pointer (some ⟨gs, 0, none⟩)] w fun ed w' => ed = .returned (.tuple #[]) ∧ StAt T w0 gm gs (clearF m i.c) i w' := by
  obtain ⟨io, ia, ib, ic⟩ := i; dsimp only at hop
  subst hop
  obtain ⟨h8, va, vs, vo, hI⟩ := h; unfold stR at hI; have ho := and_one; have H8 := Lib.hid h8; have hA := Lib.hid (clrN_all m ic h8); clear h8
  obtain ⟨mc, hmc⟩ : ∃ mc, (machL (clrN m.regs ic 0) m.code va vs vo).toArray = mc := ⟨_, rfl⟩
  rw [show m.regs = clrN m.regs ic 0 from rfl] at hI
  rw [hmc] at hI
  have HMC := Lib.hid hmc; clear hmc
  go_enter Tryz.func82, Tryz.ntmps82
  have cF := hI.facts; (try simp only [mm] at cF)
  go_wp2_with (first | (refine lv 75 hI Tryz.zeroValue75 fun gx w' hI' hb => ?_; (try clear hb); refine am92 ?_; clear hI hI'; (try clear cF); intro hI cF) | fail)
  obtain ⟨gi, rfl⟩ : ∃ y, y = gx := ⟨_, rfl⟩
  rw [← HMC.out] at hI
  clear HMC; (try replace cF := cF.2)
  go_loopw [77] (fun v wr => ∃ k : Nat, v = .int .i64 k ∧ k ≤ 8 ∧ InvT T w0 [.box gm 31 (machL (clrN m.regs ic k) m.code va vs vo).toArray, .box gs 99 #[.pointer (some ⟨gm, 0, none⟩), .int .i64 21, .int .i64 ia, .int .i64 ib, .int .i64 ic],
    .row 25 7 va m.mem.length (m.mem.flatMap encV), .row 73 12 vs m.stack.length (m.stack.flatMap encF), .row 3 1 vo m.out.length (m.out.flatMap encI), .box gi 75 #[.int .i64 21, .int .i64 ia, .int .i64 ib, .int .i64 ic]] wr) (fun v _ => (8 - intOf v).toNat)
  case atStart => exact ⟨0, rfl, by omega, hI⟩
  case round =>
    clear hI
    obtain ⟨k, rfl, hk, hI⟩ := hrel
    rcases Nat.lt_or_ge k 8 with hlt | hge
    · have hkz : (k : Int) < 8 := (by omega)
      by_cases hb : ic / 2 ^ k % 2 = 1
      · have hb' : (ic / 2 ^ k % 2 == 1) = true := (by simp [hb]); have HN := Lib.hid (clrN_yes (regs := m.regs) hb)
        have h64 : (machL (clrN m.regs ic k) m.code va vs vo).toArray.size = 64 := by rw [List.size_toArray]; exact machL_length (by rw [clrN_length]; exact H8.out)
        have hs : setMany (machL (clrN m.regs ic k) m.code va vs vo).toArray.toList (k * 7) [.bool Val.zero.is, .int .i64 Val.zero.n, .int .i64 Val.zero.key.perm, .int .i64 Val.zero.key.base, .int .i64 Val.zero.key.len, .int .i64 Val.zero.key.pos, .int .i64 Val.zero.key.tag] = machL (clrN m.regs ic (k + 1)) m.code va vs vo := by
          rw [HN.out]; exact setReg_flat (by rw [clrN_length]; exact H8.out) hlt Val.zero
        obtain ⟨mc, hmc⟩ : ∃ mc, (machL (clrN m.regs ic k) m.code va vs vo).toArray = mc := ⟨_, rfl⟩
        rw [hmc] at hI hs h64
        have HS := Lib.hid hs; have H64 := Lib.hid h64; clear hs hmc h64 hb HN; refine am160 ?_; (try clear cF); intro cF
        go_wp2_with (first | (refine listI rfl fun K hK => wpI_storeS _ _ _ rfl hI rfl 0 rfl rfl HS.out (by rw [H64.out]; simp; omega) (by kernel_rfl) (by simp [Value.oneCell', Val.zero, Key.zero]) fun w' hI' => hK _ _ ?_; clear hK K; (try clear hb); refine am92 ?_; clear hI hI'; (try clear cF); intro hI cF) | fail)
        go_roundw
        case rel => exact ⟨k + 1, by go_num, by omega, hI⟩
        case measure => simp [intOf]; omega
      · have hb' : (ic / 2 ^ k % 2 == 1) = false := (by simpa using hb); have HN := Lib.hid (clrN_no (regs := m.regs) hb); clear hb; refine am160 ?_; (try clear cF); intro cF
        go_wp2_with fail
        go_roundw
        case rel => exact ⟨k + 1, by go_num, by omega, by rw [HN.out]; exact hI⟩
        case measure => simp [intOf]; omega
    · obtain rfl : k = 8 := by omega
      refine am160 ?_; (try clear cF); intro cF
      go_wp2_with fail
      go_end0
      refine ⟨rfl, by simp [clearF], va, vs, vo, ?_⟩; have h2 := hI.first [_, _, _, _, _] [_] rfl
      rw [hA.out] at h2
      exact h2
end
end Go.Proofs.YthmpnnfejghhfaaGreatDoor
namespace Go.Proofs.YthmpnnfejghhfaaGreatDoor
open Go.RowKit
set_option maxRecDepth 100000
section
variable {T : Nat → Prop} {w0 w : World} {gm gs : Nat} {m : Mach} {i : Inst}
theorem Stp.yes {w' : World} {p : Mach × Int} {ed : Ending} (he : p.2 = 0) (h : Stp T w0 gm gs i w p ed w') : ed = .returned (.tuple #[]) ∧ StAt T w0 gm gs p.1 i w' := by
  rcases h with h | h
  · exact h.2
  · exact absurd he h.1
theorem Stp.no {w' : World} {p : Mach × Int} {ed : Ending} (he : ¬ p.2 = 0) (h : Stp T w0 gm gs i w p ed w') : Thr p.2 w ed w' := by
  rcases h with h | h
  · exact absurd h.1 he
  · exact h.2
theorem c_div_ok (a b : Int) (he : dve b = 0) (w : World) : Calls Tryz.prog 98 #[.int .i64 a, .int .i64 b] w (Ret (.int .i64 (dvq a b)) w) := by
  have hd := c_num_Div a b
  generalize dvq a b = q at *
  rw [he] at hd
  go_enter Tryz.func98, Tryz.ntmps98
  go_wp2_with (first
    | (go_at_call 99; refine (hd _).mono ?_; rintro ed w' ⟨rfl, rfl⟩)
    | (go_at_call 76; refine (c_must_ok _).mono ?_; rintro ed w' ⟨rfl, rfl⟩)
    | fail)
  go_returns
  exact Ret.int rfl (Below.refl _ _)
theorem c_div_no (a b : Int) (he : ¬ dve b = 0) (w : World) : Calls Tryz.prog 98 #[.int .i64 a, .int .i64 b] w (Thr (dve b) w) := by
  have hd := c_num_Div a b
  generalize dvq a b = q at *
  generalize dve b = e at *
  go_enter Tryz.func98, Tryz.ntmps98
  go_wp2_with (first
    | (go_at_call 99; refine (hd _).mono ?_; rintro ed w' ⟨rfl, rfl⟩)
    | (go_at_call 76; refine (c_must_err e he _).mono ?_; rintro ed w' ⟨rfl, rfl⟩)
    | fail)
  exact ⟨rfl, rfl, Below.refl _ _⟩
theorem c_numbers_thr (h : StAt T w0 gm gs m i w) (F : FuncId) (b c : Nat) (vb vc : Val) (e : Int) (hb : b < 8) (hc : c < 8) (hib : i.b = b) (hic : i.c = c) (hvb : m.regs[b]? = some vb) (hvc : m.regs[c]? = some vc) (h1 : vb.is = false) (h2 : vc.is = false)
    (eg : ∀ args w, (callFunc F args).run Tryz.prog w = .ok (.enter F args) w)
    (hF : ∀ w, Calls Tryz.prog F #[.int .i64 vb.n, .int .i64 vc.n] w (Thr e w)) :
    Calls Tryz.prog 93 #[.pointer (some ⟨gs, 0, none⟩), .func (.func F) #[] #[]] w (Thr e w) := by
  have hP := h; obtain ⟨io, ia, ib, ic⟩ := i; dsimp only at hib hic
  subst hib hic
  have c1 := h.cellS; have HP := Lib.hid hP; have HF := Lib.hid hF; clear hP h hF
  go_enter Tryz.func93, Tryz.ntmps93
  go_wp2_with (first
    | (go_at_call 79; refine (c_number_ok HP1.out c vc hvc hc h2).mono ?_; rintro ed w2 ⟨rfl, hb2⟩; have hz2 := hb2.size; have HP2 := Lib.hid (HP1.out.on hb2); clear c1; have c1 := HP2.out.cellS)
    | (go_at_call 79; refine (c_number_ok HP.out b vb hvb hb h1).mono ?_; rintro ed w1 ⟨rfl, hb1⟩; have hz1 := hb1.size; have HP1 := Lib.hid (HP.out.on hb1); clear c1; have c1 := HP1.out.cellS)
    | (go_at_fn F; refine (HF.out _).mono ?_; rintro ed w3 ⟨rfl, hb3⟩)
    | fail)
  exact ⟨rfl, rfl, Below.trans hb1 (Below.mono (Below.trans hb2 (Below.mono hb3 hz2)) hz1)⟩
set_option maxHeartbeats 2000000 in
theorem c_plain_div (h : StAt T w0 gm gs m i w) (a b c : Nat) (x y : Val) (ha8 : a < 8) (hb8 : b < 8) (hc8 : c < 8) (hia : i.a = a) (hib : i.b = b) (hic : i.c = c) (hop : i.op = 6) (hx : m.regs[b]? = some x) (hy : m.regs[c]? = some y) (hxi : x.is = false) (hyi : y.is = false) (he : dve y.n = 0) :
    Calls Tryz.prog 82 #[.pointer (some ⟨gs, 0, none⟩)] w fun ed w' => ed = .returned (.tuple #[]) ∧ StAt T w0 gm gs (setN m a (dvq x.n y.n)) i w' := by
  obtain ⟨io, ia, ib, ic⟩ := i; dsimp only at hia hib hic hop
  subst hia hib hic hop
  obtain ⟨h8, va, vs, vo, hI⟩ := h; unfold stR at hI; obtain ⟨mc, hmc⟩ : ∃ mc, (machL m.regs m.code va vs vo).toArray = mc := ⟨_, rfl⟩; rw [hmc] at hI; refine am137 ?_; intro HMC H64; clear hmc; have EG := Lib.hid (show ∀ args w, (callFunc 98 args).run Tryz.prog w = .ok (.enter 98 args) w from enters_of Tryz.func98 (by kernel_rfl) rfl)
  go_enter Tryz.func82, Tryz.ntmps82
  have cF := hI.facts; (try simp only [mm] at cF)
  go_wp2_with (first
    | (refine lv 75 hI Tryz.zeroValue75 fun gx w' hI' hb => ?_; (try clear hb); refine am92 ?_; clear hI hI'; (try clear cF); intro hI cF)
    | (go_at_call 93; refine (c_numbers_ok (StAt.of (i := ⟨6, a, b, c⟩) h8 HMC _ hI) _ 98 rfl b c a x y _ hb8 hc8 ha8 rfl rfl rfl hx hy hxi hyi EG.out (fun w => c_div_ok x.n y.n he w)).mono ?_; rintro ed w4 ⟨rfl, hP4⟩)
    | fail)
  go_end0
  exact ⟨rfl, hP4⟩
set_option maxHeartbeats 2000000 in
theorem c_plain_div_no (h : StAt T w0 gm gs m i w) (a b c : Nat) (x y : Val) (ha8 : a < 8) (hb8 : b < 8) (hc8 : c < 8) (hia : i.a = a) (hib : i.b = b) (hic : i.c = c) (hop : i.op = 6) (hx : m.regs[b]? = some x) (hy : m.regs[c]? = some y) (hxi : x.is = false) (hyi : y.is = false) (he : ¬ dve y.n = 0) :
    Calls Tryz.prog 82 #[.pointer (some ⟨gs, 0, none⟩)] w (Thr (dve y.n) w) := by
  obtain ⟨io, ia, ib, ic⟩ := i; dsimp only at hia hib hic hop
  subst hia hib hic hop
  refine am131 ?_; intro HP h8 va vs vo hI; generalize (machL m.regs m.code va vs vo).toArray = mc at hI; have H0 := Lib.hid hI; clear h
  have EG := Lib.hid (show ∀ args w, (callFunc 98 args).run Tryz.prog w = .ok (.enter 98 args) w from enters_of Tryz.func98 (by kernel_rfl) rfl)
  go_enter Tryz.func82, Tryz.ntmps82
  have cF := hI.facts; (try simp only [mm] at cF)
  go_wp2_with (first
    | (refine lv 75 hI Tryz.zeroValue75 fun gx w' hI' hb => ?_; (try clear hb); refine am92 ?_; clear hI hI'; (try clear cF); intro hI cF)
    | (go_at_call 93; have hbl := H0.out.same (ts := [_]) hI (by simp); refine (c_numbers_thr (HP.out.on hbl) 98 b c x y _ hb8 hc8 rfl rfl hx hy hxi hyi EG.out (fun w => c_div_no x.n y.n he w)).mono ?_; rintro ed w1 ⟨rfl, hb1⟩)
    | fail)
  exact ⟨rfl, rfl, Below.trans hbl (Below.mono hb1 hbl.size)⟩
theorem c_plain_div_no1 (h : StAt T w0 gm gs m i w) (a b c : Nat) (x y : Val) (ha8 : a < 8) (hb8 : b < 8) (hc8 : c < 8) (hia : i.a = a) (hib : i.b = b) (hic : i.c = c) (hop : i.op = 6) (hx : m.regs[b]? = some x) (hy : m.regs[c]? = some y) (hxi : x.is = true) :
    Calls Tryz.prog 82 #[.pointer (some ⟨gs, 0, none⟩)] w (Thr 10 w) := by
  exact az12
theorem c_plain_div_no2 (h : StAt T w0 gm gs m i w) (a b c : Nat) (x y : Val) (ha8 : a < 8) (hb8 : b < 8) (hc8 : c < 8) (hia : i.a = a) (hib : i.b = b) (hic : i.c = c) (hop : i.op = 6) (hx : m.regs[b]? = some x) (hy : m.regs[c]? = some y) (hxi : x.is = false) (hyi : y.is = true) :
    Calls Tryz.prog 82 #[.pointer (some ⟨gs, 0, none⟩)] w (Thr 10 w) := by
  obtain ⟨io, ia, ib, ic⟩ := i; dsimp only at hia hib hic hop
  subst hia hib hic hop
  refine am131 ?_; intro HP h8 va vs vo hI; generalize (machL m.regs m.code va vs vo).toArray = mc at hI; have H0 := Lib.hid hI; clear h
  go_enter Tryz.func82, Tryz.ntmps82
  have cF := hI.facts; (try simp only [mm] at cF)
  go_wp2_with (first
    | (refine lv 75 hI Tryz.zeroValue75 fun gx w' hI' hb => ?_; (try clear hb); refine am92 ?_; clear hI hI'; (try clear cF); intro hI cF)
    | (go_at_call 93; have hbl := H0.out.same (ts := [_]) hI (by simp); refine (c_numbers_err2 (HP.out.on hbl) 98 b c x y hb8 hc8 rfl rfl hx hy hxi hyi).mono ?_; rintro ed w1 ⟨rfl, hb1⟩)
    | fail)
  exact ⟨rfl, rfl, Below.trans hbl (Below.mono hb1 hbl.size)⟩
theorem c_plain_set (h : StAt T w0 gm gs m i w) (a : Nat) (ha8 : a < 8) (hia : i.a = a) (hop : i.op = 1) :
    Calls Tryz.prog 82 #[.pointer (some ⟨gs, 0, none⟩)] w fun ed w' => ed = .returned (.tuple #[]) ∧ StAt T w0 gm gs (setN m a i.c) i w' := by
  obtain ⟨io, ia, ib, ic⟩ := i; dsimp only at hia hop
  subst hia hop
  obtain ⟨h8, va, vs, vo, hI⟩ := h; unfold stR at hI; obtain ⟨mc, hmc⟩ : ∃ mc, (machL m.regs m.code va vs vo).toArray = mc := ⟨_, rfl⟩; rw [hmc] at hI; refine am137 ?_; intro HMC H64; clear hmc
  go_enter Tryz.func82, Tryz.ntmps82
  have cF := hI.facts; (try simp only [mm] at cF)
  go_wp2_with (first
    | (refine lv 75 hI Tryz.zeroValue75 fun gx w' hI' hb => ?_; (try clear hb); refine am92 ?_; clear hI hI'; (try clear cF); intro hI cF)
    | (go_at_call 92; refine (c_setNumber (StAt.of (i := ⟨1, a, ib, ic⟩) h8 HMC _ hI) ic a ha8 rfl).mono ?_; rintro ed w4 ⟨rfl, hP4⟩)
    | fail)
  go_end0
  exact ⟨rfl, hP4⟩
theorem c_plain_copy (h : StAt T w0 gm gs m i w) (a b : Nat) (x : Val) (ha8 : a < 8) (hb8 : b < 8) (hia : i.a = a) (hib : i.b = b) (hop : i.op = 2) (hx : m.regs[b]? = some x) :
    Calls Tryz.prog 82 #[.pointer (some ⟨gs, 0, none⟩)] w fun ed w' => ed = .returned (.tuple #[]) ∧ StAt T w0 gm gs (setR m a x) i w' := by
  obtain ⟨io, ia, ib, ic⟩ := i; dsimp only at hia hib hop
  subst hia hib hop
  obtain ⟨h8, va, vs, vo, hI⟩ := h; unfold stR at hI; obtain ⟨mc, hmc⟩ : ∃ mc, (machL m.regs m.code va vs vo).toArray = mc := ⟨_, rfl⟩; rw [hmc] at hI; refine am137 ?_; intro HMC H64; clear hmc
  have q : ∀ j, j < 7 → mc[b * 7 + j]? = (encV x)[j]? := fun j hj => by rw [← HMC.out]; exact regs_at h8 hx j hj
  have q0 := q 0 (by decide); have q1 := q 1 (by decide); have q2 := q 2 (by decide); have q3 := q 3 (by decide); have q4 := q 4 (by decide); have q5 := q 5 (by decide); have q6 := q 6 (by decide); simp only [encV, List.getElem?_cons_zero, List.getElem?_cons_succ, Nat.add_zero] at q0 q1 q2 q3 q4 q5 q6; clear q; have HS := Lib.hid (show setMany mc.toList (a * 7) [.bool x.is, .int .i64 x.n, .int .i64 x.key.perm, .int .i64 x.key.base, .int .i64 x.key.len, .int .i64 x.key.pos, .int .i64 x.key.tag] = machL (m.regs.set a x) m.code va vs vo by rw [← HMC.out]; exact setReg_flat h8 ha8 x); have haz : (a : Int) < 8 := (by omega); have hbz : (b : Int) < 8 := (by omega)
  go_enter Tryz.func82, Tryz.ntmps82
  have cF := hI.facts; (try simp only [mm] at cF)
  go_wp2_with (first | (refine lv 75 hI Tryz.zeroValue75 fun gx w' hI' hb => ?_; (try clear hb); refine am92 ?_; clear hI hI'; (try clear cF); intro hI cF) | fail)
  (refine wp_region_KG 19 [0, 1, 5] (by kernel_rfl) hI fun w' hI' hHeld => ?_; (try clear hb); refine am92 ?_; clear hI hI'; (try clear cF); intro hI cF)
  refine am127 ?_; refine oneGs (i := 19) (by kernel_rfl) rfl (by kernel_rfl) (fun K hK => ?_)
  (refine stepI rfl (wpI_storeS _ _ _ rfl hI rfl 0 rfl rfl HS.out (by simp [H64.out]; omega) (by kernel_rfl) (by simp [Value.oneCell']) fun w' hI' => hK.out _ _ ?_); clear hK K; (try clear hb); refine am103 ?_; clear hI hI'; (try clear cF); intro hI cF)
  refine doneG (by kernel_rfl) ?_ _
  (try clear hHeld)
  go_wp2_with fail
  go_end0
  exact ⟨rfl, by simp [setR, h8], va, vs, vo, hI.first [_, _, _, _, _] [_] rfl⟩
theorem c_plain_ask (h : StAt T w0 gm gs m i w) (ha : 0 ≤ i.a ∧ i.a ≤ 7) (hB : 0 ≤ i.b ∧ i.b ≤ 7) (hc : 0 ≤ i.c ∧ i.c ≤ 5) (hop : i.op = 17) :
    Calls Tryz.prog 82 #[.pointer (some ⟨gs, 0, none⟩)] w (Stp T w0 gm gs i w (plainF i m)) := by
  have HA := Lib.hid (fun w (h : StAt T w0 gm gs m i w) => c_ask h ha hB hc hop)
  obtain ⟨q, hq⟩ : ∃ q, plainF i m = q := ⟨_, rfl⟩
  rw [hq] at HA ⊢
  clear hq ha hB hc
  by_cases he : q.2 = 0
  · refine Calls.mono (R := fun ed w' => ed = .returned (.tuple #[]) ∧ StAt T w0 gm gs q.1 i w') ?_ (fun ed w' h => .inl ⟨he, h⟩); obtain ⟨io, ia, ib, ic⟩ := i; dsimp only at hop
    subst hop
    refine am131 ?_; intro HP h8 va vs vo hI; generalize (machL m.regs m.code va vs vo).toArray = mc at hI; have H0 := Lib.hid hI; clear h
    go_enter Tryz.func82, Tryz.ntmps82
    have cF := hI.facts; (try simp only [mm] at cF)
    go_wp2_with (first
      | (refine lv 75 hI Tryz.zeroValue75 fun gx w' hI' hb => ?_; (try clear hb); refine am92 ?_; clear hI hI'; (try clear cF); intro hI cF)
      | (go_at_call 100; refine am132 ?_; intro hbl ed w4 hs; obtain ⟨rfl, hP4⟩ := hs.yes he)
      | fail)
    go_end0
    exact ⟨rfl, hP4⟩
  · refine Calls.mono (R := Thr q.2 w) ?_ (fun ed w' h => .inr ⟨he, h⟩); obtain ⟨io, ia, ib, ic⟩ := i; dsimp only at hop
    subst hop
    refine am131 ?_; intro HP h8 va vs vo hI; generalize (machL m.regs m.code va vs vo).toArray = mc at hI; have H0 := Lib.hid hI; clear h
    go_enter Tryz.func82, Tryz.ntmps82
    have cF := hI.facts; (try simp only [mm] at cF)
    go_wp2_with (first
      | (refine lv 75 hI Tryz.zeroValue75 fun gx w' hI' hb => ?_; (try clear hb); refine am92 ?_; clear hI hI'; (try clear cF); intro hI cF)
      | (go_at_call 100; refine am132 ?_; intro hbl ed w4 hs; obtain ⟨rfl, hb1⟩ := hs.no he)
      | fail)
    exact ⟨rfl, rfl, Below.trans hbl (Below.mono hb1 hbl.size)⟩
theorem c_plain_here (h : StAt T w0 gm gs m i w) (a : Nat) (ha8 : a < 8) (hia : i.a = a) (hop : i.op = 20) :
    Calls Tryz.prog 82 #[.pointer (some ⟨gs, 0, none⟩)] w fun ed w' => ed = .returned (.tuple #[]) ∧ StAt T w0 gm gs (setK m a m.code) i w' := by
  obtain ⟨io, ia, ib, ic⟩ := i; dsimp only at hia hop
  subst hia hop
  obtain ⟨h8, va, vs, vo, hI⟩ := h; unfold stR at hI; obtain ⟨mc, hmc⟩ : ∃ mc, (machL m.regs m.code va vs vo).toArray = mc := ⟨_, rfl⟩; rw [hmc] at hI; refine am137 ?_; intro HMC H64; clear hmc
  have p56 : mc[56]? = some (.int .i64 m.code.perm) := by rw [← HMC.out, List.getElem?_toArray]; exact machL_56 h8
  have p57 : mc[57]? = some (.int .i64 m.code.base) := by rw [← HMC.out, List.getElem?_toArray]; exact machL_57 h8
  have p58 : mc[58]? = some (.int .i64 m.code.len) := by rw [← HMC.out, List.getElem?_toArray]; exact machL_58 h8
  have p59 : mc[59]? = some (.int .i64 m.code.pos) := by rw [← HMC.out, List.getElem?_toArray]; exact machL_59 h8
  have p60 : mc[60]? = some (.int .i64 m.code.tag) := by rw [← HMC.out, List.getElem?_toArray]; exact machL_60 h8
  go_enter Tryz.func82, Tryz.ntmps82
  have cF := hI.facts; (try simp only [mm] at cF)
  go_wp2_with (first
    | (refine lv 75 hI Tryz.zeroValue75 fun gx w' hI' hb => ?_; (try clear hb); refine am92 ?_; clear hI hI'; (try clear cF); intro hI cF)
    | (go_at_call 101; refine (c_setKey_ok (StAt.of (i := ⟨20, a, ib, ic⟩) h8 HMC _ hI) m.code a ha8 rfl).mono ?_; rintro ed w4 ⟨rfl, hP4⟩)
    | fail)
  go_end0
  exact ⟨rfl, hP4⟩
set_option maxHeartbeats 2000000 in
theorem c_plain_tell (h : StAt T w0 gm gs m i w) (a : Nat) (x : Val) (ha8 : a < 8) (hia : i.a = a) (hop : i.op = 22) (hx : m.regs[a]? = some x) (hxi : x.is = false) (hl : m.out.length < 100) :
    Calls Tryz.prog 82 #[.pointer (some ⟨gs, 0, none⟩)] w fun ed w' => ed = .returned (.tuple #[]) ∧ StAt T w0 gm gs { m with out := m.out ++ [x.n] } i w' := by
  obtain ⟨io, ia, ib, ic⟩ := i; dsimp only at hia hop
  subst hia hop
  obtain ⟨h8, va, vs, vo, hI⟩ := h; unfold stR at hI; obtain ⟨O, co, hvo⟩ := (InvT.own0 (enc := encI) (xs := m.out) (size := 1) hI (i := 4) rfl).form
  subst hvo
  have p63 : (machL m.regs m.code va vs (.slice O m.out.length co)).toArray[63]? = some (.slice O m.out.length co) := by rw [List.getElem?_toArray]; exact machL_63 h8
  obtain ⟨mc, hmc⟩ : ∃ mc, (machL m.regs m.code va vs (.slice O m.out.length co)).toArray = mc := ⟨_, rfl⟩
  have h64 : mc.size = 64 := by rw [← hmc, List.size_toArray]; exact machL_length h8
  rw [hmc] at hI p63
  have HMC := Lib.hid hmc; have H64 := Lib.hid h64; clear hmc h64
  have h100 : ((m.out.length : Int) == 100) = false := by simp; omega
  go_enter Tryz.func82, Tryz.ntmps82
  have cF := hI.facts; (try simp only [mm] at cF)
  go_wp2_with (first
    | (refine lv 75 hI Tryz.zeroValue75 fun gx w' hI' hb => ?_; (try clear hb); refine am92 ?_; clear hI hI'; (try clear cF); intro hI cF)
    | (go_at_call 79; refine (c_number_ok (StAt.of (i := ⟨22, a, ib, ic⟩) h8 HMC _ hI) a x hx ha8 hxi).mono ?_; rintro ed w1 ⟨rfl, hb1⟩; have hI' := hI.on hb1; (try clear hb); refine am92 ?_; clear hI hI'; (try clear cF); intro hI cF)
    | fail)
  (refine wp_region_KG 16 [0, 1] (by kernel_rfl) hI fun w' hI' hHeld => ?_; (try clear hb); refine am92 ?_; clear hI hI'; (try clear cF); intro hI cF)
  refine am102 ?_; refine oneG (i := 12) (by kernel_rfl) rfl (fun K hK => ?_); (refine am171 ?_; clear hK K hI; intro gl w' hHeld; (try clear cF); intro hI cF); refine oneG (i := 13) (by kernel_rfl) rfl (fun K hK => ?_)
  (refine stepI rfl (wpI_app (t := 29) _ _ rfl el_I hI 4 rfl rfl rfl (hI.lies1 (i := 6) (enc := encI) (size := 1) rfl x.n (fun j hj => by simp [encI, Value.cells])) rfl (by unfold maxLen; simp only [List.length_cons, List.length_nil]; omega) (by simp only [List.length_cons, List.length_nil]; omega) fun v' w' hI' => hK.out _ _ (hI'.held (by simp)) (fun hHeld => ?_)); clear hK K; (try clear hb); refine am103 ?_; clear hI hI'; (try clear cF); intro hI cF)
  obtain ⟨A2, cp2, hv2⟩ := (InvT.own0 (enc := encI) (xs := m.out ++ [x.n]) (size := 1) hI (i := 4) rfl).form
  subst hv2
  (refine tg 14 ?_; (try simp only [np, Act.put])); (refine tg 15 ?_; (try simp only [np, Act.put])); refine oneGs (i := 16) (by kernel_rfl) rfl (by kernel_rfl) (fun K hK => ?_)
  (refine am141 ?_; intro w' hI'; clear hK K; (try clear hb); refine am103 ?_; clear hI hI'; (try clear cF); intro hI cF)
  refine doneG (by kernel_rfl) ?_ _
  (try clear hHeld)
  go_wp2_with fail
  go_end0
  refine ⟨rfl, h8, va, vs, .slice A2 (m.out ++ [x.n]).length cp2, ?_⟩; have h2 := hI.first [_, _, _, _, _] [_, _] rfl
  rw [← HMC.out, List.setIfInBounds_toArray, machL_out h8] at h2
  exact h2
theorem c_plain_tell_no (h : StAt T w0 gm gs m i w) (a : Nat) (x : Val) (ha8 : a < 8) (hia : i.a = a) (hop : i.op = 22) (hx : m.regs[a]? = some x) (hxi : x.is = true) :
    Calls Tryz.prog 82 #[.pointer (some ⟨gs, 0, none⟩)] w (Thr 10 w) := by
  obtain ⟨io, ia, ib, ic⟩ := i; dsimp only at hia hop
  subst hia hop
  refine am131 ?_; intro HP h8 va vs vo hI; generalize (machL m.regs m.code va vs vo).toArray = mc at hI; have H0 := Lib.hid hI; clear h
  go_enter Tryz.func82, Tryz.ntmps82
  exact az50
theorem c_plain_tell_full (h : StAt T w0 gm gs m i w) (a : Nat) (x : Val) (ha8 : a < 8) (hia : i.a = a) (hop : i.op = 22) (hx : m.regs[a]? = some x) (hxi : x.is = false) (hl : m.out.length = 100) :
    Calls Tryz.prog 82 #[.pointer (some ⟨gs, 0, none⟩)] w (Thr 9 w) := by
  obtain ⟨io, ia, ib, ic⟩ := i; dsimp only at hia hop
  subst hia hop
  have HP := Lib.hid h; obtain ⟨h8, va, vs, vo, hI⟩ := id h; obtain ⟨O, co, hvo⟩ := (InvT.own0 (enc := encI) (xs := m.out) (size := 1) hI (i := 4) rfl).form
  subst hvo
  have hJ := InvT.enter (rc := [_, _]) (ts := [_, _, _]) hI; clear hI; have hI := hJ; clear hJ h
  have p63 : (machL m.regs m.code va vs (.slice O m.out.length co)).toArray[63]? = some (.slice O m.out.length co) := by rw [List.getElem?_toArray]; exact machL_63 h8
  generalize (machL m.regs m.code va vs (.slice O m.out.length co)).toArray = mc at *
  rw [hl] at p63
  have H0 := Lib.hid hI
  go_enter Tryz.func82, Tryz.ntmps82
  have cF := hI.facts; (try simp only [mm] at cF)
  go_wp2_with (first
    | (refine lv 75 hI Tryz.zeroValue75 fun gx w' hI' hb => ?_; (try clear hb); refine am92 ?_; clear hI hI'; (try clear cF); intro hI cF)
    | (go_at_call 79; refine am197 ?_; intro hbl w1 hb1 hI'; (try clear hb); refine am92 ?_; clear hI hI'; (try clear cF); intro hI cF)
    | (go_at_call 76; refine (c_must_err 9 (by decide) _).mono ?_; rintro ed w' ⟨rfl, rfl⟩)
    | fail)
  exact ⟨rfl, rfl, H0.out.same (ts := [_]) hI (by simp)⟩
end
end Go.Proofs.YthmpnnfejghhfaaGreatDoor
