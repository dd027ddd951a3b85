/- What the parts say: Laws of regions that draw. Conditions: none. -/
import Derived.Test.YthmpnnfejghhfaaGreatDoorP16
import Derived.Test.YthmpnnfejghhfaaGreatDoorP17
import Derived.Deep.CutBlock
import Derived.Test.YthmpnnfejghhfaaGreatDoorP15
set_option linter.unusedVariables false
set_option linter.unusedSimpArgs false
namespace Go.Proofs.YthmpnnfejghhfaaGreatDoor
theorem az11 {P : Prop} (h : P := by
  go_enter Tryz.func66, Tryz.ntmps66
  have hI := Inv.start w; have cF := hI.facts
  go_wp2_with (first | ((with_reducible refine at_box ?_); first | (refine listI rfl fun K hK => wpI_box _ _ rfl hI rfl fun gx w' hI' hb => hK _ _ ?_; clear hK K; (try clear hb); refine am92 ?_; clear hI hI'; (try clear cF); intro hI cF) | (refine listI rfl fun K hK => wpI_box1 _ _ rfl hI rfl rfl fun gx w' hI' hb => hK _ _ ?_; clear hK K; (try clear hb); refine am92 ?_; clear hI hI'; (try clear cF); intro hI cF)) | ((with_reducible refine at_alloc ?_); first | (refine listI rfl fun K hK => wpI_alloc 31 rfl hI Tryz.zeroValue31 (cs := zeroMC) (by first | rfl | kernel_rfl) fun gx w' hI' hb => hK _ _ ?_; clear hK K; (try clear hb); refine am92 ?_; clear hI hI'; (try clear cF); intro hI cF)) | (go_at_call 84; (with_reducible refine (r_Within _ _ _).mono ?_); rintro e w1 ⟨rfl, rfl⟩) | ((with_reducible refine at_store ?_); first | (refine listI rfl fun K hK => wpI_storeW _ _ _ rfl hI rfl 3 rfl rfl rfl (by kernel_rfl) (by simp [Value.oneCell']) fun w' hI' => hK _ _ ?_; clear hK K; (try clear hb); refine am92 ?_; clear hI hI'; (try clear cF); intro hI cF)) | fail)
  exact az72) : P := h
theorem az13 {P : Prop} (h : P := by
  go_enter Tryz.func66, Tryz.ntmps66
  have hI := Inv.start w; have cF := hI.facts
  go_wp2_with (first | ((with_reducible refine at_box ?_); first | (refine listI rfl fun K hK => wpI_box _ _ rfl hI rfl fun gx w' hI' hb => hK _ _ ?_; clear hK K; (try clear hb); refine am92 ?_; clear hI hI'; (try clear cF); intro hI cF) | (refine listI rfl fun K hK => wpI_box1 _ _ rfl hI rfl rfl fun gx w' hI' hb => hK _ _ ?_; clear hK K; (try clear hb); refine am92 ?_; clear hI hI'; (try clear cF); intro hI cF)) | ((with_reducible refine at_alloc ?_); first | (refine listI rfl fun K hK => wpI_alloc 31 rfl hI Tryz.zeroValue31 (cs := zeroMC) (by first | rfl | kernel_rfl) fun gx w' hI' hb => hK _ _ ?_; clear hK K; (try clear hb); refine am92 ?_; clear hI hI'; (try clear cF); intro hI cF)) | ((with_reducible refine at_store ?_); first | (refine listI rfl fun K hK => wpI_storeW _ _ _ rfl hI rfl 3 rfl rfl rfl (by kernel_rfl) (by simp [Value.oneCell']) fun w' hI' => hK _ _ ?_; clear hK K; (try clear hb); refine am92 ?_; clear hI hI'; (try clear cF); intro hI cF)) | fail)
  exact az72) : P := h
theorem az42 {P : Prop} (h : P := by
  have e1 := machL_putCode (k' := { x with tag := 0 }) (k := m.code) (a := .slice A m.mem.length sa) (b := .slice A2 (m.stack ++ [fr]).length cp2) (c := .slice O m.out.length so) h8; have e2 := machL_putReg (k := { x with tag := 0 }) (a := .slice A m.mem.length sa) (b := .slice A2 (m.stack ++ [fr]).length cp2) (c := .slice O m.out.length so) h8 (i := 7) (by decide) ⟨true, 0, { y with tag := 0 }⟩
  rw [HMC.out, List.setIfInBounds_toArray, machL_stack h8]
  refine Eq.trans ?_ e2
  exact congrArg (fun l => setMany l 49 (encV ⟨true, 0, { y with tag := 0 }⟩)) e1) : P := h
theorem az60 {P : Prop} (h : P := by
  have hbx := hI.box (i := 3) rfl; refine am172 ?_
  show RetRows2 w (callF m x y).1 _ _
  rw [HBK.out]
  exact ⟨h82, _, _, _, rfl, ((hI.perm (List.perm_append_comm (l₁ := [_, _, _, _, _, _, _]) (l₂ := [_, _, _]))).first [_, _, _] _ rfl)⟩) : P := h
theorem az72 {P : Prop} (h : P := by
  have hbx := hI.box (i := 3) rfl; (refine am126 ?_)
  exact ⟨rfl, hI.below⟩) : P := h
theorem am176 {P Q : Prop} (k : Q) (h : Hq Q → P := by (intro k_; rintro e w' ⟨AF, AFk, rfl, hO, -, hb⟩; have hI' := hI.ownrow hb hO; clear hO; refine am149 ?_; intro hHeld; (try clear hb); refine am103 ?_; clear hI'; revert hHeld; revert AFk; revert AF; revert w'; exact k_.out)) : P := h ⟨k⟩
open Go.RowKit
set_option maxRecDepth 100000
theorem twoG {P : Program} {md : Region.Mode} {ops : Array Oper} {Q : Exit → Act → World → Prop} {S : World → Prop} {s i j : Nat} {oi oj : Oper} {f : Nat} {listed : Array Bool} {a : Act} {w : World} (hr : Region.ready md ops listed = [i, j]) (hi0 : ops.toList[i]? = some oi) (hj0 : ops.toList[j]? = some oj)
    (h1 : ∀ K : Act → World → Prop, Shut (∀ a w, S w → (S w → GateW P md ops Q S s f (listed.setIfInBounds i true) a w) → K a w) → if Region.wanted oi (yielded ops a.tmps) = true then Oper.wp P oi a w K Q else K (a.put oi.dst undef) w)
    (h2 : ∀ K : Act → World → Prop, Shut (∀ a w, S w → (S w → GateW P md ops Q S s f (listed.setIfInBounds j true) a w) → K a w) → if Region.wanted oj (yielded ops a.tmps) = true then Oper.wp P oj a w K Q else K (a.put oj.dst undef) w) :
    GateW P md ops Q S s (f + 1) listed a w := fun inv => by
  have hi : ops[i]? = some oi := by rw [← Array.getElem?_toList]; exact hi0
  have hj : ops[j]? = some oj := by rw [← Array.getElem?_toList]; exact hj0
  refine ⟨fun h0 => (by rw [hr] at h0; cases h0), fun k hk => ?_⟩
  have hk' : k ∈ Region.ready md ops listed := hk
  rw [hr] at hk
  rcases List.mem_cons.1 hk with rfl | hk
  · exact wpOp_step hi (fun K' hK => h1 K' (fun a w hS hW => hK a w ⟨fun _ => hS, hW hS (inv.set hk' (ready_lt hk'))⟩))
  · obtain rfl : k = j := by simpa using hk
    exact wpOp_step hj (fun K' hK => h2 K' (fun a w hS hW => hK a w ⟨fun _ => hS, hW hS (inv.set hk' (ready_lt hk'))⟩))
theorem wpI_run {P : Program} {o : Oper} {a : Act} {w : World} {K : Act → World → Prop} {Q : Exit → Act → World → Prop} {v : Value} (h : (execOp a.eval o).run P w = .ok (.value v) w) (hk : K (a.put o.dst v) w) : o.wp P a w K Q := by
  unfold Oper.wp
  rw [h]
  exact hk
theorem InvT.rowCap {T : Nat → Prop} {w0 w : World} {rs : List Res} (h : InvT T w0 rs w) {i n k cap size : Nat} {A : Option Addr} {e : TypeId} {us : List Value} (hi : rs[i]? = some (.row e size (.slice A k cap) n us)) : n ≤ cap ∧ cap ≤ maxLen := by
  rcases (h.ok i _ hi).2 with ⟨hv, h0⟩ | ⟨g, c, cur, hv, h1, h2, h3, h4, h5, h6⟩
  · cases hv; subst h0; exact ⟨Nat.le_refl _, by unfold maxLen; omega⟩
  · cases hv; exact ⟨h3, h4⟩
theorem subB4 (p : Int) : subB 4 p = hasP 4 p := subB_pow p 2 (by omega)
end Go.Proofs.YthmpnnfejghhfaaGreatDoor
namespace Go.Proofs.YthmpnnfejghhfaaGreatDoor
open Go.RowKit
set_option maxRecDepth 100000
def RetRows2 (w : World) (m : Mach) : Ending → World → Prop := fun ed w' => m.regs.length = 8 ∧ ∃ va vs vo, ed = .returned (.tuple #[.agg (machL m.regs m.code va vs vo).toArray, .int .i64 0]) ∧
  Inv w [.row 25 7 va m.mem.length (m.mem.flatMap encV), .row 73 12 vs m.stack.length (m.stack.flatMap encF), .row 3 1 vo m.out.length (m.out.flatMap encI)] w'
set_option maxHeartbeats 4000000 in
theorem r_call_bad (mc : Array Value) (m : Mach) (w : World) (hm : MachV w w.heap.size mc m) (x y : Key) (e : Int)
    (hcase : (x.tag = 0 ∧ e = 11) ∨ (¬ x.tag = 0 ∧ y.tag = 0 ∧ e = 11) ∨ (¬ x.tag = 0 ∧ ¬ y.tag = 0 ∧ ¬ x.tag = y.tag ∧ e = 11) ∨ (¬ x.tag = 0 ∧ x.tag = y.tag ∧ hasP 4 x.perm = false ∧ e = 12) ∨ (¬ x.tag = 0 ∧ x.tag = y.tag ∧ hasP 4 x.perm = true ∧ hasP 4 y.perm = true ∧ e = 12) ∨
      (¬ x.tag = 0 ∧ x.tag = y.tag ∧ hasP 4 x.perm = true ∧ hasP 4 y.perm = false ∧ 16 ≤ m.stack.length ∧ e = 9)) :
    Calls Tryz.prog 66 #[.agg mc, .agg #[.int .i64 x.perm, .int .i64 x.base, .int .i64 x.len, .int .i64 x.pos, .int .i64 x.tag], .agg #[.int .i64 y.perm, .int .i64 y.base, .int .i64 y.len, .int .i64 y.pos, .int .i64 y.tag]] w (Ret (.tuple #[.agg zeroMC, .int .i64 e]) w) := by
  have h8 := hm.regs; obtain ⟨A, S, O, sa, ss, so, hmc, -, -, -, -, -, -, hLm, hLs, hLo⟩ := hm.ex
  have p62 : mc[62]? = some (.slice S m.stack.length ss) := by rw [hmc, List.getElem?_toArray]; exact machL_62 h8
  clear hm hmc hLm hLs hLo; have HC := Lib.hid hcase; clear hcase
  rcases HC.out with ⟨h1, rfl⟩ | ⟨h1, h2, rfl⟩ | ⟨h1, h2, h3, rfl⟩ | ⟨h1, h2, h3, rfl⟩ | ⟨h1, h2, h3, h4, rfl⟩ | ⟨h1, h2, h3, h4, h5, rfl⟩
  · clear HC; have h1' : (x.tag == 0) = true := (by simpa using h1)
    exact az13
  · clear HC; have h1' : (x.tag == 0) = false := (by simpa using h1); have h2' : (y.tag == 0) = true := (by simpa using h2)
    exact az13
  · clear HC; have h1' : (x.tag == 0) = false := (by simpa using h1); have h2' : (y.tag == 0) = false := (by simpa using h2); have h3' : (x.tag != y.tag) = true := (by simpa using h3)
    exact az13
  · clear HC
    have h1' : (y.tag == 0) = false := by rw [← h2]; simpa using h1
    have h3' : subB 4 x.perm = false := (fun h => by rw [← h]; exact subB4 _)  h3
    exact az11
  · clear HC
    have h1' : (y.tag == 0) = false := by rw [← h2]; simpa using h1
    have h3' : subB 4 x.perm = true := (fun h => by rw [← h]; exact subB4 _)  h3; have h4' : subB 4 y.perm = true := (fun h => by rw [← h]; exact subB4 _)  h4
    exact az11
  · clear HC
    have h1' : (y.tag == 0) = false := by rw [← h2]; simpa using h1
    have h3' : subB 4 x.perm = true := (fun h => by rw [← h]; exact subB4 _)  h3; have h4' : subB 4 y.perm = false := (fun h => by rw [← h]; exact subB4 _)  h4; have h5' : (15 : Int) < m.stack.length := (by omega)
    exact az11
set_option maxHeartbeats 8000000 in
theorem r_call_ok (mc : Array Value) (m : Mach) (w : World) (hm : MachV w w.heap.size mc m) (hl1 : m.mem.length ≤ 400) (hl2 : m.stack.length < 16) (hl3 : m.out.length ≤ 101) (x y : Key)
    (h1 : ¬ x.tag = 0) (h2 : x.tag = y.tag) (h3 : hasP 4 x.perm = true) (h4 : hasP 4 y.perm = false) (hpos : wrap64 (m.code.pos + 1) = m.code.pos + 1) :
    Calls Tryz.prog 66 #[.agg mc, .agg #[.int .i64 x.perm, .int .i64 x.base, .int .i64 x.len, .int .i64 x.pos, .int .i64 x.tag], .agg #[.int .i64 y.perm, .int .i64 y.base, .int .i64 y.len, .int .i64 y.pos, .int .i64 y.tag]] w (RetRows2 w (callF m x y).1) := by
  have h8 := hm.regs; have h64 := hm.size; obtain ⟨A, S, O, sa, ss, so, hmc, b1, b2, b3, b4, b5, b6, hLm, hLs, hLo⟩ := hm.ex
  have p56 : mc[56]? = some (.int .i64 m.code.perm) := by rw [hmc, List.getElem?_toArray]; exact machL_56 h8
  have p57 : mc[57]? = some (.int .i64 m.code.base) := by rw [hmc, List.getElem?_toArray]; exact machL_57 h8
  have p58 : mc[58]? = some (.int .i64 m.code.len) := by rw [hmc, List.getElem?_toArray]; exact machL_58 h8
  have p59 : mc[59]? = some (.int .i64 m.code.pos) := by rw [hmc, List.getElem?_toArray]; exact machL_59 h8
  have p60 : mc[60]? = some (.int .i64 m.code.tag) := by rw [hmc, List.getElem?_toArray]; exact machL_60 h8
  have p61 : mc[61]? = some (.slice A m.mem.length sa) := by rw [hmc, List.getElem?_toArray]; exact machL_61 h8
  have p62 : mc[62]? = some (.slice S m.stack.length ss) := by rw [hmc, List.getElem?_toArray]; exact machL_62 h8
  have p63 : mc[63]? = some (.slice O m.out.length so) := by rw [hmc, List.getElem?_toArray]; exact machL_63 h8
  obtain ⟨d, hd⟩ : ∃ d, m.regs[7]? = some d := ⟨_, List.getElem?_eq_getElem (by omega)⟩
  have q : ∀ j, j < 7 → mc[7 * 7 + j]? = (encV d)[j]? := fun j hj => by rw [hmc]; exact regs_at h8 hd j hj
  refine am114 ?_; intro q0 q1 q2 q3 q4 q5 q6; simp only [encV, List.getElem?_cons_zero, List.getElem?_cons_succ, Nat.add_zero, Nat.reduceMul, Nat.reduceAdd] at q0 q1 q2 q3 q4 q5 q6; clear q; have HMC := Lib.hid hmc; have H64 := Lib.hid h64; have HD := Lib.hid hd; have HLm := Lib.hid hLm; have HLs := Lib.hid hLs; have HLo := Lib.hid hLo; clear hmc h64 hd hm hLm hLs hLo
  have h1' : (y.tag == 0) = false := by rw [← h2]; simpa using h1
  have h3' : subB 4 x.perm = true := (fun h => by rw [← h]; exact subB4 _)  h3; have h4' : subB 4 y.perm = false := (fun h => by rw [← h]; exact subB4 _)  h4; have h16 : ¬ (15 : Int) < m.stack.length := (by omega)
  have hi64 : IntKind.i64.wrap (m.code.pos + 1) = m.code.pos + 1 := by rw [IntWalk.i64_left]; exact hpos
  have HT := Lib.hid h1; clear h1 hpos
  go_enter Tryz.func66, Tryz.ntmps66
  have hI := Inv.start w; have cF := hI.facts
  go_wp2_with (first | ((with_reducible refine at_box ?_); first | (refine listI rfl fun K hK => wpI_box _ _ rfl hI rfl fun gx w' hI' hb => hK _ _ ?_; clear hK K; (try clear hb); refine am92 ?_; clear hI hI'; (try clear cF); intro hI cF) | (refine listI rfl fun K hK => wpI_box1 _ _ rfl hI rfl rfl fun gx w' hI' hb => hK _ _ ?_; clear hK K; (try clear hb); refine am92 ?_; clear hI hI'; (try clear cF); intro hI cF)) | ((with_reducible refine at_alloc ?_); first | (refine listI rfl fun K hK => wpI_alloc 31 rfl hI Tryz.zeroValue31 (cs := zeroMC) (by first | rfl | kernel_rfl) fun gx w' hI' hb => hK _ _ ?_; clear hK K; (try clear hb); refine am92 ?_; clear hI hI'; (try clear cF); intro hI cF)) | (go_at_call 84; (with_reducible refine (r_Within _ _ _).mono ?_); rintro e w1 ⟨rfl, rfl⟩) | ((with_reducible refine at_alloc ?_); first | (refine lv 73 hI Tryz.zeroValue73 fun gx w' hI' hb => ?_; (try clear hb); refine am92 ?_; clear hI hI'; (try clear cF); intro hI cF)) | ((with_reducible refine at_store ?_); first | (refine listI rfl fun K hK => wpI_store1 _ _ _ rfl hI rfl 4 rfl rfl rfl (by simp) (by kernel_rfl) fun w' hI' => hK _ _ ?_; clear hK K; (try clear hb); refine am92 ?_; clear hI hI'; (try clear cF); intro hI cF)) | fail)
  obtain ⟨fr, hfr⟩ : ∃ fr : Frame, (⟨{ m.code with pos := m.code.pos + 1 }, d⟩ : Frame) = fr := ⟨_, rfl⟩
  have HFR := Lib.hid hfr; clear hfr
  have hm2 : m.stack.length ≤ maxLen := by unfold maxLen; omega
  (refine wp_region_KG 7 [0, 4] (by kernel_rfl) hI fun w' hI' hHeld => ?_; (try clear hb); refine am92 ?_; clear hI hI'; (try clear cF); intro hI cF)
  refine am179 ?_
  refine twoG (i := 2) (j := 4) (by kernel_rfl) rfl rfl (fun K hK => ?_) (fun K hK => ?_)
  · (go_simp; refine (r_Copy_F S ss m.stack _ hm2 (by omega) (hI.lies HLs.out)).mono ?_; refine am176 ?_; clear hK K hI; intro w' AF AFk hHeld; (try clear cF); intro hI cF); refine oneG (i := 4) (by kernel_rfl) rfl (fun K hK => ?_); (refine am169 ?_; clear hK K hI; intro gl w' hHeld; (try clear cF); intro hI cF); refine oneG (i := 5) (by kernel_rfl) rfl (fun K hK => ?_)
    (refine stepI rfl (wpI_app (t := 28) _ _ rfl el_F hI 5 rfl rfl rfl (hI.lies1 (i := 6) (enc := encF) (size := 12) rfl fr (fun j hj => by rw [← HFR.out]; simp [encF, Value.cells])) rfl (by unfold maxLen; simp only [List.length_cons, List.length_nil]; omega) (by simp only [List.length_cons, List.length_nil]; omega) fun v' w' hI' => hK.out _ _ (hI'.held (by simp)) (fun hHeld => ?_)); clear hK K; (try clear hb); refine am103 ?_; clear hI hI'; (try clear cF); intro hI cF)
    obtain ⟨A2, cp2, hv2⟩ := (InvT.own0 (enc := encF) (xs := m.stack ++ [fr]) (size := 12) hI (i := 5) rfl).form
    subst hv2
    (refine tg 6 ?_; (try simp only [np, Act.put])); refine oneGs (i := 7) (by kernel_rfl) rfl (by kernel_rfl) (fun K hK => ?_)
    (refine am141 ?_; intro w' hI'; clear hK K; (try clear hb); refine am103 ?_; clear hI hI'; (try clear cF); intro hI cF)
    refine doneG (by kernel_rfl) ?_ _
    (try clear hHeld)
    go_wp2_with (first | ((with_reducible refine at_store ?_); first | (refine listI rfl fun K hK => wpI_store1 _ _ _ rfl hI rfl 1 rfl rfl rfl (by simp) (by kernel_rfl) fun w' hI' => hK _ _ ?_; clear hK K; (try clear hb); refine am92 ?_; clear hI hI'; (try clear cF); intro hI cF)) | ((with_reducible refine at_store ?_); first | (refine listI rfl fun K hK => wpI_store1 _ _ _ rfl hI rfl 2 rfl rfl rfl (by simp) (by kernel_rfl) fun w' hI' => hK _ _ ?_; clear hK K; (try clear hb); refine am92 ?_; clear hI hI'; (try clear cF); intro hI cF)) | fail)
    (refine wp_region_K [1, 2] (by kernel_rfl) hI fun w' hI' hHeld => ?_; (try clear hb); refine am92 ?_; clear hI hI'; (try clear cF); intro hI cF)
    refine am104 ?_; (refine tk 5 ?_; (try simp only [np, Act.put])); refine oneH (i := 4) (by kernel_rfl) rfl (fun K hK => ?_)
    (refine am143 ?_; intro w' hI' hHeld; clear hK K; (try clear hb); refine am103 ?_; clear hI hI'; (try clear cF); intro hI cF)
    (refine tk 6 ?_; (try simp only [np, Act.put])); refine oneH (i := 7) (by kernel_rfl) rfl (fun K hK => ?_)
    (refine am136 ?_; intro w' hI' hHeld; clear hK K; (try clear hb); refine am103 ?_; clear hI hI'; (try clear cF); intro hI cF)
    refine wpAnyH_done (by kernel_rfl) ?_ _; clear hHeld
    have hbk : (callF m x y).1 = { m with regs := m.regs.set 7 ⟨true, 0, { y with tag := 0 }⟩, code := { x with tag := 0 }, stack := m.stack ++ [fr] } := by
      exact az53
    have hbox : setMany (setMany (mc.setIfInBounds 62 (.slice A2 (m.stack ++ [fr]).length cp2)).toList 56 [.int .i64 x.perm, .int .i64 x.base, .int .i64 x.len, .int .i64 x.pos, .int .i64 0]) 49 [.bool true, .int .i64 0, .int .i64 y.perm, .int .i64 y.base, .int .i64 y.len, .int .i64 y.pos, .int .i64 0] = machL (m.regs.set 7 ⟨true, 0, { y with tag := 0 }⟩) { x with tag := 0 } (.slice A m.mem.length sa) (.slice A2 (m.stack ++ [fr]).length cp2) (.slice O m.out.length so) := by
      exact az42
    obtain ⟨m2, hm2⟩ : ∃ m2 : Mach, ({ m with regs := m.regs.set 7 ⟨true, 0, { y with tag := 0 }⟩, code := { x with tag := 0 }, stack := m.stack ++ [fr] } : Mach) = m2 := ⟨_, rfl⟩
    have hbox2 : setMany (setMany (mc.setIfInBounds 62 (.slice A2 (m.stack ++ [fr]).length cp2)).toList 56 [.int .i64 x.perm, .int .i64 x.base, .int .i64 x.len, .int .i64 x.pos, .int .i64 0]) 49 [.bool true, .int .i64 0, .int .i64 y.perm, .int .i64 y.base, .int .i64 y.len, .int .i64 y.pos, .int .i64 0] = machL m2.regs m2.code (.slice A m2.mem.length sa) (.slice A2 m2.stack.length cp2) (.slice O m2.out.length so) := by subst hm2; exact hbox
    have hst2 : m.stack ++ [fr] = m2.stack := by subst hm2; rfl
    have h8' : m2.regs.length = 8 := by subst hm2; simp [h8]
    have k1 : m2.mem.length ≤ 400 ∧ m2.stack.length ≤ 16 ∧ m2.out.length ≤ 101 := by
      subst hm2
      exact ⟨hl1, by simp only [List.length_append, List.length_cons, List.length_nil]; omega, hl3⟩
    have k2 : m2.mem.length ≤ sa ∧ m2.out.length ≤ so := by subst hm2; exact ⟨b1, b5⟩
    have k3 : Lies encV 7 w w.heap.size A m2.mem ∧ Lies encI 1 w w.heap.size O m2.out := by subst hm2; exact ⟨HLm.out, HLo.out⟩
    rw [hbox2] at hI
    rw [hst2] at hI
    have HBK := Lib.hid (hbk.trans hm2); have K1 := Lib.hid k1; have K2 := Lib.hid k2; have K3 := Lib.hid k3; clear hbox hbk hbox2 hst2 hm2 k1 k2 k3 p56 p57 p58 p59 p60 p61 p62 p63 q0 q1 q2 q3 q4 q5 q6 HMC H64 HD HLm HLs HLo h3' h4' h1' h16 hi64 HFR; refine am160 ?_; (try clear cF); intro cF
    go_wp2_with (first
        | ((with_reducible refine at_load ?_); first | (refine wpList_load_box rfl 31 _ rfl (hI.box (i := 0) rfl) rfl Tryz.underlying31 rfl (by first | exact info_mach (by assumption) | (simp only [hsz1]; kernel_rfl) | (simp only [hsz2]; kernel_rfl) | (simp only [hsz]; kernel_rfl) | kernel_rfl) ?_))
        | (go_at_call 39
           have hmv : MachV _ _ (machL m2.regs m2.code (.slice A m2.mem.length sa) (.slice A2 m2.stack.length cp2) (.slice O m2.out.length so)).toArray m2 := (by have hrc := hI.rowCap (i := 5) rfl; have hls := (InvT.own0 (enc := encF) (xs := m2.stack) (size := 12) hI (i := 5) rfl).liesB (fun _ => rfl) rfl; exact ⟨⟨A, A2, O, sa, cp2, so, rfl, K2.out.1, b2, hrc.1, hrc.2, K2.out.2, b6, hI.lies K3.out.1, hls, hI.lies K3.out.2⟩, h8'⟩); refine (r_MachineCopy _ _ _ hmv K1.out.1 K1.out.2.1 K1.out.2.2).mono ?_; rintro e w2 ⟨h82, va, vs, vo, rfl, hI2⟩; have hb := hI2.below; have hI' := hI.join hI2; clear hI2 hmv
           (try clear hb); replace hI := hI'; clear hI'; replace cF := hI.facts; (try simp only [mm, Act.put, Act.eval] at hI cF))
        | ((with_reducible refine at_store ?_); first | (refine listI rfl fun K hK => wpI_storeW _ _ _ rfl hI rfl 3 rfl rfl (by rw [zeroMC_size, List.size_toArray, machL_length h82]) (info_mach h82) (machL_one h82 (hI.one (i := 7) rfl) (hI.one (i := 8) rfl) (hI.one (i := 9) rfl)) fun w' hI' => hK _ _ ?_; clear hK K; (try clear hb); refine am92 ?_; clear hI hI'; (try clear cF); intro hI cF))
        | fail)
    exact az60
  · (refine am169 ?_; clear hK K hI; intro gl w' hHeld; (try clear cF); intro hI cF); refine oneG (i := 2) (by kernel_rfl) rfl (fun K hK => ?_); (go_simp; refine (r_Copy_F S ss m.stack _ hm2 (by omega) (hI.lies HLs.out)).mono ?_; refine am176 ?_; clear hK K hI; intro w' AF AFk hHeld; (try clear cF); intro hI cF); refine oneG (i := 5) (by kernel_rfl) rfl (fun K hK => ?_)
    (refine stepI rfl (wpI_app (t := 28) _ _ rfl el_F hI 6 rfl rfl rfl (hI.lies1 (i := 5) (enc := encF) (size := 12) rfl fr (fun j hj => by rw [← HFR.out]; simp [encF, Value.cells])) rfl (by unfold maxLen; simp only [List.length_cons, List.length_nil]; omega) (by simp only [List.length_cons, List.length_nil]; omega) fun v' w' hI' => hK.out _ _ (hI'.held (by simp)) (fun hHeld => ?_)); clear hK K; (try clear hb); refine am103 ?_; clear hI hI'; (try clear cF); intro hI cF)
    obtain ⟨A2, cp2, hv2⟩ := (InvT.own0 (enc := encF) (xs := m.stack ++ [fr]) (size := 12) hI (i := 6) rfl).form
    subst hv2
    (refine tg 6 ?_; (try simp only [np, Act.put])); refine oneGs (i := 7) (by kernel_rfl) rfl (by kernel_rfl) (fun K hK => ?_)
    (refine am141 ?_; intro w' hI'; clear hK K; (try clear hb); refine am103 ?_; clear hI hI'; (try clear cF); intro hI cF)
    refine doneG (by kernel_rfl) ?_ _
    (try clear hHeld)
    go_wp2_with (first | ((with_reducible refine at_store ?_); first | (refine listI rfl fun K hK => wpI_store1 _ _ _ rfl hI rfl 1 rfl rfl rfl (by simp) (by kernel_rfl) fun w' hI' => hK _ _ ?_; clear hK K; (try clear hb); refine am92 ?_; clear hI hI'; (try clear cF); intro hI cF)) | ((with_reducible refine at_store ?_); first | (refine listI rfl fun K hK => wpI_store1 _ _ _ rfl hI rfl 2 rfl rfl rfl (by simp) (by kernel_rfl) fun w' hI' => hK _ _ ?_; clear hK K; (try clear hb); refine am92 ?_; clear hI hI'; (try clear cF); intro hI cF)) | fail)
    (refine wp_region_K [1, 2] (by kernel_rfl) hI fun w' hI' hHeld => ?_; (try clear hb); refine am92 ?_; clear hI hI'; (try clear cF); intro hI cF)
    refine am104 ?_; (refine tk 5 ?_; (try simp only [np, Act.put])); refine oneH (i := 4) (by kernel_rfl) rfl (fun K hK => ?_)
    (refine am143 ?_; intro w' hI' hHeld; clear hK K; (try clear hb); refine am103 ?_; clear hI hI'; (try clear cF); intro hI cF)
    (refine tk 6 ?_; (try simp only [np, Act.put])); refine oneH (i := 7) (by kernel_rfl) rfl (fun K hK => ?_)
    (refine am136 ?_; intro w' hI' hHeld; clear hK K; (try clear hb); refine am103 ?_; clear hI hI'; (try clear cF); intro hI cF)
    refine wpAnyH_done (by kernel_rfl) ?_ _; clear hHeld
    have hbk : (callF m x y).1 = { m with regs := m.regs.set 7 ⟨true, 0, { y with tag := 0 }⟩, code := { x with tag := 0 }, stack := m.stack ++ [fr] } := by
      exact az53
    have hbox : setMany (setMany (mc.setIfInBounds 62 (.slice A2 (m.stack ++ [fr]).length cp2)).toList 56 [.int .i64 x.perm, .int .i64 x.base, .int .i64 x.len, .int .i64 x.pos, .int .i64 0]) 49 [.bool true, .int .i64 0, .int .i64 y.perm, .int .i64 y.base, .int .i64 y.len, .int .i64 y.pos, .int .i64 0] = machL (m.regs.set 7 ⟨true, 0, { y with tag := 0 }⟩) { x with tag := 0 } (.slice A m.mem.length sa) (.slice A2 (m.stack ++ [fr]).length cp2) (.slice O m.out.length so) := by
      exact az42
    obtain ⟨m2, hm2⟩ : ∃ m2 : Mach, ({ m with regs := m.regs.set 7 ⟨true, 0, { y with tag := 0 }⟩, code := { x with tag := 0 }, stack := m.stack ++ [fr] } : Mach) = m2 := ⟨_, rfl⟩
    have hbox2 : setMany (setMany (mc.setIfInBounds 62 (.slice A2 (m.stack ++ [fr]).length cp2)).toList 56 [.int .i64 x.perm, .int .i64 x.base, .int .i64 x.len, .int .i64 x.pos, .int .i64 0]) 49 [.bool true, .int .i64 0, .int .i64 y.perm, .int .i64 y.base, .int .i64 y.len, .int .i64 y.pos, .int .i64 0] = machL m2.regs m2.code (.slice A m2.mem.length sa) (.slice A2 m2.stack.length cp2) (.slice O m2.out.length so) := by subst hm2; exact hbox
    have hst2 : m.stack ++ [fr] = m2.stack := by subst hm2; rfl
    have h8' : m2.regs.length = 8 := by subst hm2; simp [h8]
    have k1 : m2.mem.length ≤ 400 ∧ m2.stack.length ≤ 16 ∧ m2.out.length ≤ 101 := by
      subst hm2
      exact ⟨hl1, by simp only [List.length_append, List.length_cons, List.length_nil]; omega, hl3⟩
    have k2 : m2.mem.length ≤ sa ∧ m2.out.length ≤ so := by subst hm2; exact ⟨b1, b5⟩
    have k3 : Lies encV 7 w w.heap.size A m2.mem ∧ Lies encI 1 w w.heap.size O m2.out := by subst hm2; exact ⟨HLm.out, HLo.out⟩
    rw [hbox2] at hI
    rw [hst2] at hI
    have HBK := Lib.hid (hbk.trans hm2); have K1 := Lib.hid k1; have K2 := Lib.hid k2; have K3 := Lib.hid k3; clear hbox hbk hbox2 hst2 hm2 k1 k2 k3 p56 p57 p58 p59 p60 p61 p62 p63 q0 q1 q2 q3 q4 q5 q6 HMC H64 HD HLm HLs HLo h3' h4' h1' h16 hi64 HFR; refine am160 ?_; (try clear cF); intro cF
    go_wp2_with (first
        | ((with_reducible refine at_load ?_); first | (refine wpList_load_box rfl 31 _ rfl (hI.box (i := 0) rfl) rfl Tryz.underlying31 rfl (by first | exact info_mach (by assumption) | (simp only [hsz1]; kernel_rfl) | (simp only [hsz2]; kernel_rfl) | (simp only [hsz]; kernel_rfl) | kernel_rfl) ?_))
        | (go_at_call 39
           have hmv : MachV _ _ (machL m2.regs m2.code (.slice A m2.mem.length sa) (.slice A2 m2.stack.length cp2) (.slice O m2.out.length so)).toArray m2 := (by have hrc := hI.rowCap (i := 6) rfl; have hls := (InvT.own0 (enc := encF) (xs := m2.stack) (size := 12) hI (i := 6) rfl).liesB (fun _ => rfl) rfl; exact ⟨⟨A, A2, O, sa, cp2, so, rfl, K2.out.1, b2, hrc.1, hrc.2, K2.out.2, b6, hI.lies K3.out.1, hls, hI.lies K3.out.2⟩, h8'⟩); refine (r_MachineCopy _ _ _ hmv K1.out.1 K1.out.2.1 K1.out.2.2).mono ?_; rintro e w2 ⟨h82, va, vs, vo, rfl, hI2⟩; have hb := hI2.below; have hI' := hI.join hI2; clear hI2 hmv
           (try clear hb); replace hI := hI'; clear hI'; replace cF := hI.facts; (try simp only [mm, Act.put, Act.eval] at hI cF))
        | ((with_reducible refine at_store ?_); first | (refine listI rfl fun K hK => wpI_storeW _ _ _ rfl hI rfl 3 rfl rfl (by rw [zeroMC_size, List.size_toArray, machL_length h82]) (info_mach h82) (machL_one h82 (hI.one (i := 7) rfl) (hI.one (i := 8) rfl) (hI.one (i := 9) rfl)) fun w' hI' => hK _ _ ?_; clear hK K; (try clear hb); refine am92 ?_; clear hI hI'; (try clear cF); intro hI cF))
        | fail)
    exact az60
end Go.Proofs.YthmpnnfejghhfaaGreatDoor
