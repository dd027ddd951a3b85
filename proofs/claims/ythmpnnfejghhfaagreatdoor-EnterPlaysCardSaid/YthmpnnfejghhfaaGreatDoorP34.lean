/- What the parts say: The reference's step: Back. Conditions: the machine is one that may be. -/
import Derived.Test.YthmpnnfejghhfaaGreatDoorP24
import Derived.Test.YthmpnnfejghhfaaGreatDoorP25
import Derived.Test.YthmpnnfejghhfaaGreatDoorP04
import Derived.Deep.CutBlock
import Derived.Test.YthmpnnfejghhfaaGreatDoorP27
import Derived.Test.YthmpnnfejghhfaaGreatDoorP26
set_option linter.unusedVariables false
set_option linter.unusedSimpArgs false
namespace Go.Proofs.YthmpnnfejghhfaaGreatDoor
open Go.RowKit
set_option maxRecDepth 100000
set_option maxRecDepth 1000000 in
set_option maxHeartbeats 8000000 in
theorem r_sw19_none (R : Ending → World → Prop) (K : Act → World → Prop) (mc : Array Value) (w wc : World) (k : Nat) (a b : Nat) (c : Int) (x y z : Val) (gM gR gI gA gB gC gT gV : Nat) (A : Option Addr) (cp : Nat)
    (hI : InvT (fun _ => False) w (swR gM gR gI gV gA gB gC mc 19 a b c Val.zero x y z []) wc)
    (p62 : mc[62]? = some (.slice A 0 cp))
    (hR : ∀ w', Below w.heap.size w w' → R (.returned (.tuple #[.agg zeroMC, .int .i64 16])) w')
    {fr : Act} (hF : FrOp mc k gM gR gI gA gB gC gT gV 19 fr) : Code.wp Tryz.prog swCode (Exit.then K (bodyPost Tryz.prog Tryz.f31 R)) fr wc := by
  exact az200
set_option maxRecDepth 1000000 in
set_option maxHeartbeats 8000000 in
theorem r_sw19_ok (R : Ending → World → Prop) (K : Act → World → Prop) (mc : Array Value) (w wc : World) (k : Nat) (a b : Nat) (c : Int) (x y z : Val) (gM gR gI gA gB gC gT gV : Nat) (m : Mach) (fs : List Frame) (f : Frame)
    (hI : InvT (fun _ => False) w (swR gM gR gI gV gA gB gC mc 19 a b c Val.zero x y z []) wc)
    (hm : MachV w w.heap.size mc m)
    (hl1 : m.mem.length ≤ 400 ∧ m.stack.length ≤ 16 ∧ m.out.length ≤ 101)
    (hst : m.stack = fs ++ [f])
    (hR : ∀ ed w', RetRows2 w { m with regs := m.regs.set 7 f.data, code := f.code, stack := fs } ed w' → R ed w')
    {fr : Act} (hF : FrOp mc k gM gR gI gA gB gC gT gV 19 fr) : Code.wp Tryz.prog swCode (Exit.then K (bodyPost Tryz.prog Tryz.f31 R)) fr wc := by
  unfold swR at hI; refine am205 ?_; clear hF; intros; have h8 := hm.regs; have h64 := hm.size; obtain ⟨A, S, O, sa, ss, so, hmc, b1, b2, b3, b4, b5, b6, hLm, hLs, hLo⟩ := hm.ex
  have hn : m.stack.length = fs.length + 1 := by rw [hst]; simp
  have hlx : fs.length ≤ 1000 := (by omega); have hxc : fs.length ≤ ss := (by omega); have hcx : ¬ ss = 0 := (by omega)
  rw [hn] at hmc
  have p62 : mc[62]? = some (.slice S (fs.length + 1) ss) := by rw [hmc, List.getElem?_toArray]; exact machL_62 h8
  have hLf : Lies encF 12 w w.heap.size S fs := by
    have h := hLs.front (k := fs.length)
    rw [hst, List.take_left] at h
    exact h
  obtain ⟨b0, o0, f', rfl, hb0, hf', hq0⟩ := hLs.at_ (show fs.length < m.stack.length by omega)
  obtain rfl : f = f' := by
    rw [hst] at hf'
    simpa using hf'
  have e : ∀ j, j < 12 → wc.cell? ⟨b0, o0 + fs.length * 12 + j, none⟩ = (encF f)[j]? := fun j hj => by rw [hI.below.cell (p := ⟨b0, _, none⟩) hb0]; exact hq0 j hj
  have e0 := e 0 (by decide); have e1 := e 1 (by decide); have e2 := e 2 (by decide); have e3 := e 3 (by decide); have e4 := e 4 (by decide); have e5 := e 5 (by decide); have e6 := e 6 (by decide); have e7 := e 7 (by decide); have e8 := e 8 (by decide); have e9 := e 9 (by decide); have e10 := e 10 (by decide); have e11 := e 11 (by decide); simp only [encF, List.getElem?_cons_zero, List.getElem?_cons_succ, Nat.add_zero] at e0 e1 e2 e3 e4 e5 e6 e7 e8 e9 e10 e11; clear e hq0 hf'; have HMC := Lib.hid hmc; have H64 := Lib.hid h64; have HLm := Lib.hid hLm; have HLs := Lib.hid hLf; have HLo := Lib.hid hLo; have HL1 := Lib.hid hl1; have HN := Lib.hid hn; have HB := Lib.hid (And.intro b1 (And.intro b2 (And.intro b4 (And.intro b5 b6)))); clear hmc h64 hm hLm hLs hLo hLf hl1 hst hn b1 b2 b3 b4 b5 b6
  conv => arg 2; whnf
  have cF := hI.facts; (try simp only [mm] at cF)
  go_wp2_with (first | ((with_reducible refine at_alloc ?_); first | (refine lv 73 hI Tryz.zeroValue73 fun gx w' hI' hb => ?_; (try clear hb); refine am92 ?_; clear hI hI'; (try clear cF); intro hI cF)) | ((with_reducible refine at_store ?_); first | (refine listI rfl fun K hK => wpI_store1 _ _ _ rfl hI rfl 0 rfl rfl rfl (by rw [H64.out]; decide) (by kernel_rfl) fun w' hI' => hK _ _ ?_; clear hK K; (try clear hb); refine am92 ?_; clear hI hI'; (try clear cF); intro hI cF)) | fail)
  clear e0 e1 e2 e3 e4 e5 e6 e7 e8 e9 e10 e11
  (refine wp_region_K [7] (by kernel_rfl) hI fun w' hI' hHeld => ?_; (try clear hb); refine am92 ?_; clear hI hI'; (try clear cF); intro hI cF)
  refine am104 ?_; (refine tk 4 ?_; (try simp only [np, Act.put])); (refine tk 6 ?_; (try simp only [np, Act.put])); refine oneH (i := 5) (by kernel_rfl) rfl (fun K hK => ?_)
  (refine am143 ?_; intro w' hI' hHeld; clear hK K; (try clear hb); refine am103 ?_; clear hI hI'; (try clear cF); intro hI cF)
  (refine tk 7 ?_; (try simp only [np, Act.put])); refine oneH (i := 8) (by kernel_rfl) rfl (fun K hK => ?_)
  (refine am136 ?_; intro w' hI' hHeld; clear hK K; (try clear hb); refine am103 ?_; clear hI hI'; (try clear cF); intro hI cF)
  refine wpAnyH_done (by kernel_rfl) ?_ _; clear hHeld
  have hbox : setMany (setMany (mc.setIfInBounds 62 (.slice (some ⟨b0, o0, none⟩) fs.length ss)).toList 56 [.int .i64 f.code.perm, .int .i64 f.code.base, .int .i64 f.code.len, .int .i64 f.code.pos, .int .i64 f.code.tag]) 49 [.bool f.data.is, .int .i64 f.data.n, .int .i64 f.data.key.perm, .int .i64 f.data.key.base, .int .i64 f.data.key.len, .int .i64 f.data.key.pos, .int .i64 f.data.key.tag] = machL (m.regs.set 7 f.data) f.code (.slice A m.mem.length sa) (.slice (some ⟨b0, o0, none⟩) fs.length ss) (.slice O m.out.length so) := by
    rw [HMC.out, List.setIfInBounds_toArray, machL_stack h8, machL_putCode h8]
    exact machL_putReg h8 (i := 7) (by decide) f.data
  rw [hbox] at hI
  clear hbox; have h8' : (m.regs.set 7 f.data).length = 8 := (by simp [h8]); refine am160 ?_; (try clear cF); intro cF
  go_wp2_with (first
    | ((with_reducible refine at_load ?_); first | (refine wpList_load_box rfl 31 _ rfl (hI.box (i := 0) rfl) rfl Tryz.underlying31 rfl (by first | exact info_mach (by assumption) | (simp only [hsz1]; kernel_rfl) | (simp only [hsz2]; kernel_rfl) | (simp only [hsz]; kernel_rfl) | kernel_rfl) ?_))
    | (go_at_call 39
       have hmv : MachV _ _ (machL (m.regs.set 7 f.data) f.code (.slice A m.mem.length sa) (.slice (some ⟨b0, o0, none⟩) fs.length ss) (.slice O m.out.length so)).toArray ({ m with regs := m.regs.set 7 f.data, code := f.code, stack := fs } : Mach) := ⟨⟨A, some ⟨b0, o0, none⟩, O, sa, ss, so, rfl, HB.out.1, HB.out.2.1, hxc, HB.out.2.2.1, HB.out.2.2.2.1, HB.out.2.2.2.2, hI.lies HLm.out, hI.lies HLs.out, hI.lies HLo.out⟩, h8'⟩; refine (r_MachineCopy _ _ _ hmv HL1.out.1 (by have := HL1.out.2.1; have := HN.out; show fs.length ≤ 16; omega) HL1.out.2.2).mono ?_; rintro e w2 ⟨h82, va, vs, vo, rfl, hI2⟩; have hb := hI2.below; have hI' := hI.join hI2; clear hI2 hmv
       (try clear hb); replace hI := hI'; clear hI'; replace cF := hI.facts; (try simp only [mm, Act.put, Act.eval] at hI cF))
    | ((with_reducible refine at_store ?_); first | (refine listI rfl fun K hK => wpI_storeW _ _ _ rfl hI rfl 1 rfl rfl (by rw [zeroMC_size, List.size_toArray, machL_length h82]) (info_mach h82) (machL_one h82 (hI.one (i := 8) rfl) (hI.one (i := 9) rfl) (hI.one (i := 10) rfl)) fun w' hI' => hK _ _ ?_; clear hK K; (try clear hb); refine am92 ?_; clear hI hI'; (try clear cF); intro hI cF))
    | fail)
  have hbx := hI.box (i := 1) rfl; refine am172 ?_
  exact hR _ _ ⟨h82, _, _, _, rfl, ((hI.perm (List.perm_append_comm (l₁ := [_, _, _, _, _, _, _, _]) (l₂ := [_, _, _]))).first [_, _, _] _ rfl)⟩
end Go.Proofs.YthmpnnfejghhfaaGreatDoor
