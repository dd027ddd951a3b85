/- What the parts say: The reference's step, up to its switch. Conditions: the machine is one that may be; Go's tables hold what they were laid with. -/
import Derived.Test.YthmpnnfejghhfaaGreatDoorP16
import Derived.Test.YthmpnnfejghhfaaGreatDoorP17
import Derived.Test.YthmpnnfejghhfaaGreatDoorP22
import Derived.Test.YthmpnnfejghhfaaGreatDoorP40
import Derived.Test.YthmpnnfejghhfaaGreatDoorP41
import Derived.Deep.DeepCutAuto
set_option linter.unusedVariables false
set_option linter.unusedSimpArgs false
namespace Go.Proofs.YthmpnnfejghhfaaGreatDoor
theorem am111 {P Q : Prop} (k : Q) (h : Hq Q → P := by (intro k_; replace hI := InvT.swapAt 3 hI rfl rfl; (try simp only [List.cons_append, List.nil_append, List.set_cons_zero, List.set_cons_succ, List.setIfInBounds_toArray, Act.put, Act.eval, Array.getD_eq_getD_getElem?, List.getElem?_toArray, List.getElem?_cons_zero, List.getElem?_cons_succ, Option.getD_some] at hI); revert hI; exact k_.out)) : P := h ⟨k⟩
theorem am121 {P Q : Prop} (k : Q) (h : Hq Q → P := by (intro k_; replace hI := InvT.swapAt 4 hI rfl rfl; (try simp only [List.cons_append, List.nil_append, List.set_cons_zero, List.set_cons_succ, List.setIfInBounds_toArray, Act.put, Act.eval, Array.getD_eq_getD_getElem?, List.getElem?_toArray, List.getElem?_cons_zero, List.getElem?_cons_succ, Option.getD_some] at hI); revert hI; exact k_.out)) : P := h ⟨k⟩
open Go.RowKit
set_option maxRecDepth 100000
set_option maxHeartbeats 8000000 in
theorem r_step_ok (mc : Array Value) (m : Mach) (w : World) (hm : MachV w w.heap.size mc m) (hOK : MachOk m) (hE : Env w) (k : Nat) (v : Val) (hp : place m.mem.length m.code 0 4 = ((k : Int), 0)) (hv : m.mem[k]? = some v) (hn : i64 v.n) (op : Int) (a b : Nat) (c : Int) (hr : readF v.n = (⟨op, a, b, c⟩, 0)) (hvi : v.is = false)
    (x y : Val) (ha8 : a < 8) (hb8 : b < 8) (hx : m.regs[a]? = some x) (hy : m.regs[b]? = some y) (hi : instOk ⟨op, a, b, c⟩ = true) (hpos : 0 ≤ m.code.pos ∧ m.code.pos + 1 ≤ 400) (z : Val) (hz : (∃ cn : Nat, c = cn ∧ cn < 8 ∧ m.regs[cn]? = some z) ∨ ((c < 0 ∨ 7 < c) ∧ z = Val.zero)) :
    Calls Tryz.prog 31 #[.agg mc] w (RStep w (doF ⟨op, a, b, c⟩ m)) := by
  have HALL := Lib.hid (And.intro hm (And.intro hOK (And.intro hi (And.intro ha8 (And.intro hpos (And.intro (regV_nat hx) (regV_nat hy)))))))
  have HZR : (0 ≤ c ∧ c ≤ 7) → regV m c = z := fun h => by
    rcases hz with ⟨cn, hcn, h8, hv⟩ | ⟨h0, -⟩
    · rw [hcn]; exact regV_nat hv
    · omega
  have HZ2 := Lib.hid HZR; clear HZR hi hpos; obtain ⟨A, S, O, sa, ss, so, p56, p57, p58, p59, p60, p61, p62, p63, hma, -, -, -, -, -, hLm, hLs, hLo, hreg⟩ := hm.cells
  obtain ⟨be, oe, rfl, hq⟩ := mem_cells hLm hv
  have hkl : k < m.mem.length := (List.getElem?_eq_some_iff.1 hv).1; have hpl := r_place (some ⟨be, oe, none⟩) m.mem.length sa m.code (by have := keyOk_iff.1 hOK.code; constructor <;> unfold i64 <;> omega) 0 2 (by decide) (by have := hOK.len; unfold maxLen; omega); simp only [show (2 : Int) ^ 2 = 4 from rfl] at hpl
  rw [hp] at hpl
  dsimp only at hpl; have hR := fun w h => r_InstRead v.n w h hn
  rw [hr] at hR
  dsimp only at hR
  rw [hvi] at hq
  have qa0 := hreg a x hx 0 (by decide); have qa1 := hreg a x hx 1 (by decide); have qa2 := hreg a x hx 2 (by decide); have qa3 := hreg a x hx 3 (by decide); have qa4 := hreg a x hx 4 (by decide); have qa5 := hreg a x hx 5 (by decide); have qa6 := hreg a x hx 6 (by decide); have qb0 := hreg b y hy 0 (by decide); have qb1 := hreg b y hy 1 (by decide); have qb2 := hreg b y hy 2 (by decide); have qb3 := hreg b y hy 3 (by decide); have qb4 := hreg b y hy 4 (by decide); have qb5 := hreg b y hy 5 (by decide); have qb6 := hreg b y hy 6 (by decide); simp only [encV, List.getElem?_cons_zero, List.getElem?_cons_succ, Nat.add_zero] at qa0 qa1 qa2 qa3 qa4 qa5 qa6 qb0 qb1 qb2 qb3 qb4 qb5 qb6; have HPL := Lib.hid hpl; have HR := Lib.hid hR; have HQ := Lib.hid hq; have HE := Lib.hid hE; have HREG := Lib.hid hreg; have HZ := Lib.hid hz; have hk1 : (k : Int) < m.mem.length := (by omega); have hk2 : (k : Int) < sa := (by omega); have haz : (a : Int) < 8 := (by omega); have hbz : (b : Int) < 8 := (by omega); clear hz hpl hm hLm hLs hLo hreg hOK hR hq hE hp hx hy hr
  go_enter Tryz.func31, Tryz.ntmps31
  have hI := Inv.start w; have cF := hI.facts
  go_wp2_with (first
    | ((first | ((with_reducible refine at_box ?_); first | (refine listI rfl fun K hK => wpI_box _ _ rfl hI rfl fun gx w' hI' hb => hK _ _ ?_; clear hK K; (try clear hb); refine am92 ?_; clear hI hI'; (try clear cF); intro hI cF) | (refine listI rfl fun K hK => wpI_box1 _ _ rfl hI rfl rfl fun gx w' hI' hb => hK _ _ ?_; clear hK K; (try clear hb); refine am92 ?_; clear hI hI'; (try clear cF); intro hI cF))); obtain ⟨gM, rfl⟩ : ∃ y, y = gx := ⟨_, rfl⟩)
    | (((with_reducible refine at_alloc ?_); first | (refine listI rfl fun K hK => wpI_alloc 31 rfl hI Tryz.zeroValue31 (cs := zeroMC) (by first | rfl | kernel_rfl) fun gx w' hI' hb => hK _ _ ?_; clear hK K; (try clear hb); refine am92 ?_; clear hI hI'; (try clear cF); intro hI cF)); obtain ⟨gR, rfl⟩ : ∃ y, y = gx := ⟨_, rfl⟩)
    | ((go_at_call 57; (with_reducible refine (HPL.out _).mono ?_); refine am101 ?_; clear hI; (try clear cF); intro w' hI cF); obtain ⟨e0, e1⟩ := HQ.out _ hI.below)
    | (go_at_call 33; (with_reducible refine (HR.out _ (HE.out.inv hI)).mono ?_); refine am101 ?_; clear hI; (try clear cF); intro w' hI cF)
    | (((with_reducible refine at_alloc ?_); first | (refine listI rfl fun K hK => wpI_alloc 75 rfl hI Tryz.zeroValue75 (cs := #[.int .i64 instZ.op, .int .i64 instZ.a, .int .i64 instZ.b, .int .i64 instZ.c]) (by first | rfl | kernel_rfl) fun gx w' hI' hb => hK _ _ ?_; clear hK K; (try clear hb); refine am92 ?_; clear hI hI'; (try clear cF); intro hI cF)); obtain ⟨gI, rfl⟩ : ∃ y, y = gx := ⟨_, rfl⟩)
    | (((with_reducible refine at_store ?_); first | (refine listI rfl fun K hK => wpI_storeW _ _ _ rfl hI rfl 2 rfl rfl rfl (by kernel_rfl) (by simp [Value.oneCell']) fun w' hI' => hK _ _ ?_; clear hK K; (try clear hb); refine am92 ?_; clear hI hI'; (try clear cF); intro hI cF)); clear e0 e1; obtain ⟨e0, e1⟩ := HQ.out _ hI.below)
    | fail)
  clear e0 e1
  (refine wp_region_K [0, 2] (by kernel_rfl) hI fun w' hI' hHeld => ?_; (try clear hb); refine am92 ?_; clear hI hI'; (try clear cF); intro hI cF)
  refine am118 ?_; (refine tk 10 ?_; (try simp only [np, Act.put])); (try clear cF); skip
  revert hI; revert hHeld
  apply orders3 (T := _) (w0 := _)
  case hmain =>
    intro hcont hHeld hI; have cF := hI.facts
    refine threeH (i := 11) (j := 12) (k := 13) (by kernel_rfl) rfl rfl rfl (fun K hK => ?_) (fun K hK => ?_) (fun K hK => ?_)
    · (refine am96 ?_; clear hK K hI; (try clear cF); intro gx w' hHeld hI cF)
      obtain ⟨gb11, rfl⟩ : ∃ y, y = gx := ⟨_, rfl⟩
      refine twoH (i := 12) (j := 13) (by kernel_rfl) rfl rfl (fun K hK => ?_) (fun K hK => ?_)
      · (refine am96 ?_; clear hK K hI; (try clear cF); intro gx w' hHeld hI cF)
        obtain ⟨gb12, rfl⟩ : ∃ y, y = gx := ⟨_, rfl⟩
        refine oneH (i := 13) (by kernel_rfl) rfl (fun K hK => ?_); (refine am96 ?_; clear hK K hI; (try clear cF); intro gx w' hHeld hI cF)
        obtain ⟨gb13, rfl⟩ : ∃ y, y = gx := ⟨_, rfl⟩
        exact hcont gb11 gb12 gb13 w' hI
      · (refine am96 ?_; clear hK K hI; (try clear cF); intro gx w' hHeld hI cF)
        obtain ⟨gb13, rfl⟩ : ∃ y, y = gx := ⟨_, rfl⟩
        refine oneH (i := 12) (by kernel_rfl) rfl (fun K hK => ?_); (refine am96 ?_; clear hK K hI; (try clear cF); intro gx w' hHeld hI cF)
        obtain ⟨gb12, rfl⟩ : ∃ y, y = gx := ⟨_, rfl⟩
        refine am121 ?_; clear hI; intro hI
        exact hcont gb11 gb12 gb13 w' hI
    · (refine am96 ?_; clear hK K hI; (try clear cF); intro gx w' hHeld hI cF)
      obtain ⟨gb12, rfl⟩ : ∃ y, y = gx := ⟨_, rfl⟩
      refine twoH (i := 11) (j := 13) (by kernel_rfl) rfl rfl (fun K hK => ?_) (fun K hK => ?_)
      · (refine am96 ?_; clear hK K hI; (try clear cF); intro gx w' hHeld hI cF)
        obtain ⟨gb11, rfl⟩ : ∃ y, y = gx := ⟨_, rfl⟩
        refine oneH (i := 13) (by kernel_rfl) rfl (fun K hK => ?_); (refine am96 ?_; clear hK K hI; (try clear cF); intro gx w' hHeld hI cF)
        obtain ⟨gb13, rfl⟩ : ∃ y, y = gx := ⟨_, rfl⟩
        refine am111 ?_; clear hI; intro hI
        exact hcont gb11 gb12 gb13 w' hI
      · (refine am96 ?_; clear hK K hI; (try clear cF); intro gx w' hHeld hI cF)
        obtain ⟨gb13, rfl⟩ : ∃ y, y = gx := ⟨_, rfl⟩
        refine oneH (i := 11) (by kernel_rfl) rfl (fun K hK => ?_); (refine am96 ?_; clear hK K hI; (try clear cF); intro gx w' hHeld hI cF)
        obtain ⟨gb11, rfl⟩ : ∃ y, y = gx := ⟨_, rfl⟩
        refine am121 ?_; clear hI; intro hI; refine am111 ?_; clear hI; intro hI
        exact hcont gb11 gb12 gb13 w' hI
    · (refine am96 ?_; clear hK K hI; (try clear cF); intro gx w' hHeld hI cF)
      obtain ⟨gb13, rfl⟩ : ∃ y, y = gx := ⟨_, rfl⟩
      refine twoH (i := 11) (j := 12) (by kernel_rfl) rfl rfl (fun K hK => ?_) (fun K hK => ?_)
      · (refine am96 ?_; clear hK K hI; (try clear cF); intro gx w' hHeld hI cF)
        obtain ⟨gb11, rfl⟩ : ∃ y, y = gx := ⟨_, rfl⟩
        refine oneH (i := 12) (by kernel_rfl) rfl (fun K hK => ?_); (refine am96 ?_; clear hK K hI; (try clear cF); intro gx w' hHeld hI cF)
        obtain ⟨gb12, rfl⟩ : ∃ y, y = gx := ⟨_, rfl⟩
        refine am111 ?_; clear hI; intro hI; refine am121 ?_; clear hI; intro hI
        exact hcont gb11 gb12 gb13 w' hI
      · (refine am96 ?_; clear hK K hI; (try clear cF); intro gx w' hHeld hI cF)
        obtain ⟨gb12, rfl⟩ : ∃ y, y = gx := ⟨_, rfl⟩
        refine oneH (i := 11) (by kernel_rfl) rfl (fun K hK => ?_); (refine am96 ?_; clear hK K hI; (try clear cF); intro gx w' hHeld hI cF)
        obtain ⟨gb11, rfl⟩ : ∃ y, y = gx := ⟨_, rfl⟩
        refine am111 ?_; clear hI; intro hI; refine am121 ?_; clear hI; intro hI; refine am111 ?_; clear hI; intro hI
        exact hcont gb11 gb12 gb13 w' hI
  have hI := trivial; have cF := trivial; intro ga0 ga1 ga2 w' hI'
  (try clear hb); refine am92 ?_; clear hI hI'; (try clear cF); intro hI cF
  refine oneH (i := 14) (by kernel_rfl) rfl (fun K hK => ?_)
  (refine stepI rfl (wpI_storeW _ _ _ rfl hI rfl 3 rfl rfl rfl (by kernel_rfl) (by simp [Value.oneCell']) fun w' hI' => hK.out _ _ (hI'.held (by simp)) (fun hHeld => ?_)); clear hK K; (try clear hb); refine am103 ?_; clear hI hI'; (try clear cF); intro hI cF)
  refine oneH (i := 15) (by kernel_rfl) rfl (fun K hK => ?_)
  (refine stepI rfl (wpI_storeW _ _ _ rfl hI rfl 4 rfl rfl rfl (by kernel_rfl) (by simp [Value.oneCell']) fun w' hI' => hK.out _ _ (hI'.held (by simp)) (fun hHeld => ?_)); clear hK K; (try clear hb); refine am103 ?_; clear hI hI'; (try clear cF); intro hI cF)
  refine oneH (i := 16) (by kernel_rfl) rfl (fun K hK => ?_)
  (refine am167 ?_; intro w' hI' hHeld; clear hK K; (try clear hb); refine am103 ?_; clear hI hI'; (try clear cF); intro hI cF)
  refine wpAnyH_done (by kernel_rfl) ?_ _; clear hHeld
  obtain ⟨gA, rfl⟩ : ∃ y, y = ga0 := ⟨_, rfl⟩
  obtain ⟨gB, rfl⟩ : ∃ y, y = ga1 := ⟨_, rfl⟩
  obtain ⟨gC, rfl⟩ : ∃ y, y = ga2 := ⟨_, rfl⟩
  go_upto_if 72 with (first | (go_at_call 38; (with_reducible refine (r_outside _ _ _ _).mono ?_); rintro e w1 ⟨rfl, rfl⟩) | fail)
  go_cut [] (fun wx => InvT (fun _ => False) w [.box gM 31 mc, .box gR 31 zeroMC, .box gI 75 #[.int .i64 op, .int .i64 a, .int .i64 b, .int .i64 c], .box gA 25 #[.bool x.is, .int .i64 x.n, .int .i64 x.key.perm, .int .i64 x.key.base, .int .i64 x.key.len, .int .i64 x.key.pos, .int .i64 x.key.tag], .box gB 25 #[.bool y.is, .int .i64 y.n, .int .i64 y.key.perm, .int .i64 y.key.base, .int .i64 y.key.len, .int .i64 y.key.pos, .int .i64 y.key.tag], .box gC 25 #[.bool z.is, .int .i64 z.n, .int .i64 z.key.perm, .int .i64 z.key.base, .int .i64 z.key.len, .int .i64 z.key.pos, .int .i64 z.key.tag]] wx)
  case first =>
    rcases HZ.out with ⟨cn, hcn, hc8, hzv⟩ | ⟨hc, rfl⟩
    · have hcb : inR c 0 7 = true := inR_iff.2 (by omega)
      subst hcn
      have qc := fun j hj => HREG.out cn z hzv j hj; have qc0 := qc 0 (by decide); have qc1 := qc 1 (by decide); have qc2 := qc 2 (by decide); have qc3 := qc 3 (by decide); have qc4 := qc 4 (by decide); have qc5 := qc 5 (by decide); have qc6 := qc 6 (by decide); simp only [encV, List.getElem?_cons_zero, List.getElem?_cons_succ, Nat.add_zero] at qc0 qc1 qc2 qc3 qc4 qc5 qc6; clear qc; have hcz : (cn : Int) < 8 := (by omega); (try simp only [hcb, Bool.not_true, Bool.not_false])
      go_wp2_with (first | ((with_reducible refine at_store ?_); first | (refine listI rfl fun K hK => wpI_storeW _ _ _ rfl hI rfl 5 rfl rfl rfl (by kernel_rfl) (by simp [Value.oneCell']) fun w' hI' => hK _ _ ?_; clear hK K; (try clear hb); refine am92 ?_; clear hI hI'; (try clear cF); intro hI cF)) | fail)
      go_meet
      case rel => exact hI
    · have hcb : inR c 0 7 = false := inR_not.2 (by omega); (try simp only [hcb, Bool.not_true, Bool.not_false])
      go_wp2_with fail
      go_meet
      case rel => exact hI
  case rest =>
  have hI := hcut; clear hcut
  rename_i K hK
  refine hK _ _ ?_
  exact r_mid mc m w wc k op a b c x y z gM gR gI gA gB gC HALL.out.1 HALL.out.2.1 HALL.out.2.2.1 HALL.out.2.2.2.1 HALL.out.2.2.2.2.1 HALL.out.2.2.2.2.2.1 HALL.out.2.2.2.2.2.2 HZ2.out hI
end Go.Proofs.YthmpnnfejghhfaaGreatDoor
