/- What the parts say: The reference's step: Clear. Conditions: none. -/
import Derived.Test.YthmpnnfejghhfaaGreatDoorP24
import Derived.Test.YthmpnnfejghhfaaGreatDoorP25
import Derived.Test.YthmpnnfejghhfaaGreatDoorP04
import Derived.Deep.CutBlock
import Derived.Test.YthmpnnfejghhfaaGreatDoorP27
import Derived.Test.YthmpnnfejghhfaaGreatDoorP32
import Derived.Test.YthmpnnfejghhfaaGreatDoorP28
import Derived.Test.YthmpnnfejghhfaaGreatDoorP29
import Derived.Test.YthmpnnfejghhfaaGreatDoorP30
import Derived.Test.YthmpnnfejghhfaaGreatDoorP31
import Derived.Test.YthmpnnfejghhfaaGreatDoorP33
import Derived.Test.YthmpnnfejghhfaaGreatDoorP34
import Derived.Test.YthmpnnfejghhfaaGreatDoorP26
import Derived.Test.YthmpnnfejghhfaaGreatDoorP39
import Derived.Test.YthmpnnfejghhfaaGreatDoorP16
import Derived.Test.YthmpnnfejghhfaaGreatDoorP17
import Derived.Deep.DeepCutAuto
set_option linter.unusedVariables false
set_option linter.unusedSimpArgs false
namespace Go.Proofs.YthmpnnfejghhfaaGreatDoor
open Go.RowKit
set_option maxRecDepth 100000
set_option maxRecDepth 1000000 in
set_option maxHeartbeats 8000000 in
theorem r_sw21 (R : Ending → World → Prop) (K : Act → World → Prop) (mc : Array Value) (w wc : World) (k : Nat) (a b : Nat) (c : Int) (x y z : Val) (gM gR gI gA gB gC gT gV : Nat) (m : Mach) (va vs vo : Value)
    (hI : InvT (fun _ => False) w (swR gM gR gI gV gA gB gC mc 21 a b c Val.zero x y z []) wc)
    (hmc : mc = (machL m.regs m.code va vs vo).toArray)
    (h8 : m.regs.length = 8)
    (hc0 : 0 ≤ c)
    (hK : ∀ a' w', FrSw mc k gM gR gI gA gB gC gT gV 0 1 false a' → InvT (fun _ => False) w (swR gM gR gI gV gA gB gC (machL (clrN m.regs c 8) m.code va vs vo).toArray 21 a b c Val.zero x y z []) w' → K a' w')
    {fr : Act} (hF : FrOp mc k gM gR gI gA gB gC gT gV 21 fr) : Code.wp Tryz.prog swCode (Exit.then K (bodyPost Tryz.prog Tryz.f31 R)) fr wc := by
  unfold swR at hI; refine am205 ?_; clear hF; intros; have HK := Lib.hid hK; clear hK; have H8 := Lib.hid h8; clear h8
  conv => arg 2; whnf
  have HMC := Lib.hid hmc; clear hmc; have cF := hI.facts; (try simp only [mm] at cF)
  go_wp2_with fail
  have hI0 : InvT (fun _ => False) w [.box gM 31 (machL (clrN m.regs c 0) m.code va vs vo).toArray, .box gR 31 zeroMC, .box gI 75 #[.int .i64 21, .int .i64 a, .int .i64 b, .int .i64 c], .box gV 25 #[.bool Val.zero.is, .int .i64 Val.zero.n, .int .i64 Val.zero.key.perm, .int .i64 Val.zero.key.base, .int .i64 Val.zero.key.len, .int .i64 Val.zero.key.pos, .int .i64 Val.zero.key.tag], .box gA 25 #[.bool x.is, .int .i64 x.n, .int .i64 x.key.perm, .int .i64 x.key.base, .int .i64 x.key.len, .int .i64 x.key.pos, .int .i64 x.key.tag], .box gB 25 #[.bool y.is, .int .i64 y.n, .int .i64 y.key.perm, .int .i64 y.key.base, .int .i64 y.key.len, .int .i64 y.key.pos, .int .i64 y.key.tag], .box gC 25 #[.bool z.is, .int .i64 z.n, .int .i64 z.key.perm, .int .i64 z.key.base, .int .i64 z.key.len, .int .i64 z.key.pos, .int .i64 z.key.tag]] wc := by
    have h := hI
    rw [HMC.out] at h
    exact h
  clear hI; have hI := hI0
  clear hI0; (try replace cF := cF.2)
  go_loopw [303] (fun v wr => ∃ k : Nat, v = .int .i64 k ∧ k ≤ 8 ∧ InvT (fun _ => False) w [.box gM 31 (machL (clrN m.regs c k) m.code va vs vo).toArray, .box gR 31 zeroMC, .box gI 75 #[.int .i64 21, .int .i64 a, .int .i64 b, .int .i64 c], .box gV 25 #[.bool Val.zero.is, .int .i64 Val.zero.n, .int .i64 Val.zero.key.perm, .int .i64 Val.zero.key.base, .int .i64 Val.zero.key.len, .int .i64 Val.zero.key.pos, .int .i64 Val.zero.key.tag], .box gA 25 #[.bool x.is, .int .i64 x.n, .int .i64 x.key.perm, .int .i64 x.key.base, .int .i64 x.key.len, .int .i64 x.key.pos, .int .i64 x.key.tag], .box gB 25 #[.bool y.is, .int .i64 y.n, .int .i64 y.key.perm, .int .i64 y.key.base, .int .i64 y.key.len, .int .i64 y.key.pos, .int .i64 y.key.tag], .box gC 25 #[.bool z.is, .int .i64 z.n, .int .i64 z.key.perm, .int .i64 z.key.base, .int .i64 z.key.len, .int .i64 z.key.pos, .int .i64 z.key.tag]] wr) (fun v _ => (8 - intOf v).toNat)
  case atStart => exact ⟨0, rfl, by omega, hI⟩
  case round =>
    clear hI
    obtain ⟨j, rfl, hj, hI⟩ := hrel
    rcases Nat.lt_or_ge j 8 with hlt | hge
    · have hkz : (j : Int) < 8 := (by omega); have hmod : Int.tmod (c / 2 ^ j) 2 = c / 2 ^ j % 2 := Int.tmod_eq_emod_of_nonneg (Int.ediv_nonneg hc0 (by exact Int.le_of_lt (Int.pow_pos (by decide))))
      by_cases hb : c / 2 ^ j % 2 = 1
      · have hb' : (c / 2 ^ j % 2 == 1) = true := (by simp [hb])
        have hb2 : (Int.tmod (c / 2 ^ j) 2 == 1) = true := by rw [hmod]; exact hb'
        have HN := Lib.hid (clrN_yes (regs := m.regs) hb)
        have h64 : (machL (clrN m.regs c j) m.code va vs vo).toArray.size = 64 := by rw [List.size_toArray]; exact machL_length (by rw [clrN_length]; exact H8.out)
        have hs : setMany (machL (clrN m.regs c j) m.code va vs vo).toArray.toList (j * 7) [.bool Val.zero.is, .int .i64 Val.zero.n, .int .i64 Val.zero.key.perm, .int .i64 Val.zero.key.base, .int .i64 Val.zero.key.len, .int .i64 Val.zero.key.pos, .int .i64 Val.zero.key.tag] = machL (clrN m.regs c (j + 1)) m.code va vs vo := by
          rw [HN.out]; exact machL_putReg (by rw [clrN_length]; exact H8.out) hlt Val.zero
        obtain ⟨mk, hmk⟩ : ∃ mk, (machL (clrN m.regs c j) m.code va vs vo).toArray = mk := ⟨_, rfl⟩
        rw [hmk] at hI hs h64
        have HS := Lib.hid hs; have H64 := Lib.hid h64; clear hs hmk h64 hb HN hmod; refine am160 ?_; (try clear cF); intro cF
        go_wp2_with (first | ((with_reducible refine at_store ?_); first | (refine listI rfl fun K hK => wpI_storeS _ _ _ rfl hI rfl 0 rfl rfl HS.out (by rw [H64.out]; simp; omega) (by kernel_rfl) (by simp [Value.oneCell', Val.zero, Key.zero]) fun w' hI' => hK _ _ ?_; clear hK K; (try clear hb); refine am92 ?_; clear hI hI'; (try clear cF); intro hI cF)) | fail)
        go_roundw
        case rel => exact ⟨j + 1, by go_num, by omega, hI⟩
        case measure => simp [intOf]; omega
      · have hb' : (c / 2 ^ j % 2 == 1) = false := (by simpa using hb)
        have hb2 : (Int.tmod (c / 2 ^ j) 2 == 1) = false := by rw [hmod]; exact hb'
        have HN := Lib.hid (clrN_no (regs := m.regs) hb); clear hb hmod; refine am160 ?_; (try clear cF); intro cF
        go_wp2_with fail
        go_roundw
        case rel => exact ⟨j + 1, by go_num, by omega, by rw [HN.out]; exact hI⟩
        case measure => simp [intOf]; omega
    · obtain rfl : j = 8 := by omega
      refine am160 ?_; (try clear cF); intro cF
      go_wp2_with fail
      refine HK.out _ _ ?_ hI; unfold FrSw
      (repeat apply Exists.intro)
      rfl
end Go.Proofs.YthmpnnfejghhfaaGreatDoor
namespace Go.Proofs.YthmpnnfejghhfaaGreatDoor
open Go.RowKit
set_option maxRecDepth 100000
set_option maxRecDepth 1000000 in
set_option maxHeartbeats 16000000 in
theorem r_switch (K : Act → World → Prop) (mc : Array Value) (m : Mach) (w wc : World) (k : Nat) (op : Int) (a b : Nat) (c : Int) (x y z : Val) (gM gR gI gA gB gC gT gV : Nat)
    (hm : MachV w w.heap.size mc m) (hM : MachOk m) (hi : instOk ⟨op, a, b, c⟩ = true) (ha8 : a < 8) (hp : 0 ≤ m.code.pos ∧ m.code.pos + 1 ≤ 400) (hx : regV m a = x) (hy : regV m b = y) (hz : (0 ≤ c ∧ c ≤ 7) → regV m c = z)
    (ht : (tagB (want3 op c).1 x || tagB (want3 op c).2.1 y || tagB (want3 op c).2.2 z) = false)
    (hK : ∀ a' w', Code.wp Tryz.prog endCode (bodyPost Tryz.prog Tryz.f31 (RStep w (doF ⟨op, a, b, c⟩ m))) a' w' → K a' w')
    (hI : InvT (fun _ => False) w (swR gM gR gI gV gA gB gC mc op a b c Val.zero x y z []) wc)
    {fr : Act} (hF : FrOp mc k gM gR gI gA gB gC gT gV op fr) : Code.wp Tryz.prog swCode (Exit.then K (bodyPost Tryz.prog Tryz.f31 (RStep w (doF ⟨op, a, b, c⟩ m)))) fr wc := by
  unfold swR at hI; have h8 := hm.regs; have h64 := hm.size; have hm' := hm; obtain ⟨A, S, O, sa, ss, so, hmc, b1, b2, b3, b4, b5, b6, hLm, hLs, hLo⟩ := hm.ex
  have p56 : mc[56]? = some (.int .i64 m.code.perm) := by rw [hmc, List.getElem?_toArray]; exact machL_56 h8
  have p57 : mc[57]? = some (.int .i64 m.code.base) := by rw [hmc, List.getElem?_toArray]; exact machL_57 h8
  have p58 : mc[58]? = some (.int .i64 m.code.len) := by rw [hmc, List.getElem?_toArray]; exact machL_58 h8
  have p59 : mc[59]? = some (.int .i64 m.code.pos) := by rw [hmc, List.getElem?_toArray]; exact machL_59 h8
  have p60 : mc[60]? = some (.int .i64 m.code.tag) := by rw [hmc, List.getElem?_toArray]; exact machL_60 h8
  have p61 : mc[61]? = some (.slice A m.mem.length sa) := by rw [hmc, List.getElem?_toArray]; exact machL_61 h8
  have p62 : mc[62]? = some (.slice S m.stack.length ss) := by rw [hmc, List.getElem?_toArray]; exact machL_62 h8
  have p63 : mc[63]? = some (.slice O m.out.length so) := by rw [hmc, List.getElem?_toArray]; exact machL_63 h8
  have H64 : Hid (mc.size = 64) := Lib.hid h64; have l1 := hM.len; have l2 := hM.deep; have l3 := hM.outs; have hin := instOk_in hi; have h7 : (op = 3 ∨ op = 4 ∨ op = 5 ∨ op = 6 ∨ op = 7 ∨ op = 12 ∨ op = 13 ∨ op = 15 ∨ op = 16) → regV m c = z := fun h => hz (instOk_c7 hi h); have h5 : op = 17 → 0 ≤ c ∧ c ≤ 5 := fun h => instOk_c5 hi h; have vx : valE x = 0 := hx ▸ hM.reg _; have vy : valE y = 0 := hy ▸ hM.reg _; have wx := Val.wf_of vx; have wy := Val.wf_of vy; have wz : regV m c = z → z.Wf := fun h => Val.wf_of (h ▸ hM.reg _); have hwf : ∀ (i : Nat) v, m.mem[i]? = some v → Val.Wf v := fun i v h => Val.wf_of (hM.mem v (List.mem_of_getElem? h)); have hpos : 0 ≤ m.code.pos ∧ m.code.pos ≤ 400 := (by omega); have hop := hin.1; have hcr := hin.2.2.2; dsimp only at hop hcr
  have fin1_ : ∀ (v : Val) (e by_ : Int) (sets : Bool), Fin' (doF ⟨op, a, b, c⟩ m) m a v e by_ sets → (-4096 ≤ by_ ∧ by_ ≤ 4096) → ∀ a' w', FrSw mc k gM gR gI gA gB gC gT gV e by_ sets a' → InvT (fun _ => False) w [.box gM 31 mc, .box gR 31 zeroMC, .box gI 75 #[.int .i64 op, .int .i64 a, .int .i64 b, .int .i64 c], .box gV 25 #[.bool v.is, .int .i64 v.n, .int .i64 v.key.perm, .int .i64 v.key.base, .int .i64 v.key.len, .int .i64 v.key.pos, .int .i64 v.key.tag], .box gA 25 #[.bool x.is, .int .i64 x.n, .int .i64 x.key.perm, .int .i64 x.key.base, .int .i64 x.key.len, .int .i64 x.key.pos, .int .i64 x.key.tag], .box gB 25 #[.bool y.is, .int .i64 y.n, .int .i64 y.key.perm, .int .i64 y.key.base, .int .i64 y.key.len, .int .i64 y.key.pos, .int .i64 y.key.tag], .box gC 25 #[.bool z.is, .int .i64 z.n, .int .i64 z.key.perm, .int .i64 z.key.base, .int .i64 z.key.len, .int .i64 z.key.pos, .int .i64 z.key.tag]] w' → K a' w' := fun v e by_ sets hF hby a' w' hFr hIr => hK a' w' (r_fin (doF ⟨op, a, b, c⟩ m) mc mc m w k op a b c x y z v e by_ sets gM gR gI gA gB gC gT gV [] A S O sa ss so hF hmc h8 ha8 ⟨b1, b2, b3, b4, b5, b6⟩ ⟨l1, l2, by omega⟩
    (fun X w' h => ⟨h.lies hLm, h.lies hLs, h.lies hLo⟩) hpos hby a' w' hFr hIr)
  rcases (show op = 0 ∨ op = 1 ∨ op = 2 ∨ op = 3 ∨ op = 4 ∨ op = 5 ∨ op = 6 ∨ op = 7 ∨ op = 8 ∨ op = 9 ∨ op = 10 ∨ op = 11 ∨ op = 12 ∨ op = 13 ∨ op = 14 ∨ op = 15 ∨ op = 16 ∨ op = 17 ∨ op = 18 ∨ op = 19 ∨ op = 20 ∨ op = 21 ∨ op = 22 by omega) with
    rfl | rfl | rfl | rfl | rfl | rfl | rfl | rfl | rfl | rfl | rfl | rfl | rfl | rfl | rfl | rfl | rfl | rfl | rfl | rfl | rfl | rfl | rfl
  · exact r_sw0 _ _ mc w wc k a b c x y z gM gR gI gA gB gC gT gV hI (fun w' hb => RStep.err (by simp [doF]) (by decide) hb) hF
  · exact r_sw1 _ _ mc w wc k a b c x y z gM gR gI gA gB gC gT gV  hI  (fin1_ (⟨false, c, Key.zero⟩) (0) (1) true (fin1 hp) (by omega)) hF
  · exact r_sw2 _ _ mc w wc k a b c x y z gM gR gI gA gB gC gT gV  hI  (fin1_ (y) (0) (1) true (fin2 hp hy) (by omega)) hF
  · have hz' := h7 (by simp)
    have hyi : y.is = false := by simp [want3, tagB] at ht; simp [ht]
    have hzi : z.is = false := by simp [want3, tagB] at ht; simp [ht]
    exact r_sw3 _ _ mc w wc k a b c x y z gM gR gI gA gB gC gT gV  hI  (fin1_ (⟨false, calc0 0 y.n z.n, Key.zero⟩) (0) (1) true (fin3 hp hy hz' hyi hzi) (by omega)) hF
  · have hz' := h7 (by simp)
    have hyi : y.is = false := by simp [want3, tagB] at ht; simp [ht]
    have hzi : z.is = false := by simp [want3, tagB] at ht; simp [ht]
    exact r_sw4 _ _ mc w wc k a b c x y z gM gR gI gA gB gC gT gV  hI  (fin1_ (⟨false, calc0 1 y.n z.n, Key.zero⟩) (0) (1) true (fin4 hp hy hz' hyi hzi) (by omega)) hF
  · have hz' := h7 (by simp)
    have hyi : y.is = false := by simp [want3, tagB] at ht; simp [ht]
    have hzi : z.is = false := by simp [want3, tagB] at ht; simp [ht]
    exact r_sw5 _ _ mc w wc k a b c x y z gM gR gI gA gB gC gT gV  hI  (fin1_ (⟨false, calc0 2 y.n z.n, Key.zero⟩) (0) (1) true (fin5 hp hy hz' hyi hzi) (by omega)) hF
  · have hz' := h7 (by simp)
    have hyi : y.is = false := by simp [want3, tagB] at ht; simp [ht]
    have hzi : z.is = false := by simp [want3, tagB] at ht; simp [ht]
    exact r_sw6 _ _ mc w wc k a b c x y z gM gR gI gA gB gC gT gV  hI  (fin1_ (⟨false, dvq y.n z.n, Key.zero⟩) (dve z.n) (1) true (fin6 hp hy hz' hyi hzi) (by omega)) hF
  · have hz' := h7 (by simp)
    have hyi : y.is = false := by simp [want3, tagB] at ht; simp [ht]
    have hzi : z.is = false := by simp [want3, tagB] at ht; simp [ht]
    exact r_sw7 _ _ mc w wc k a b c x y z gM gR gI gA gB gC gT gV  hI  (fin1_ (⟨false, calc0 3 y.n z.n, Key.zero⟩) (0) (1) true (fin7 hp hy hz' hyi hzi) (by omega)) hF
  · exact r_sw8 _ _ mc w wc k a b c x y z gM gR gI gA gB gC gT gV  hI  (fin1_ (Val.zero) (0) (c) false (fin8) (by omega)) hF
  · have hxi : x.is = false := by simp [want3, tagB] at ht; simp [ht]
    by_cases hx0 : x.n = 0
    · exact r_sw9z _ _ mc w wc k a b c x y z gM gR gI gA gB gC gT gV  hI (hx0) (fin1_ (Val.zero) (0) (1) false (fin9z hx hxi hx0) (by omega)) hF
    · exact r_sw9n _ _ mc w wc k a b c x y z gM gR gI gA gB gC gT gV  hI (hx0) (fin1_ (Val.zero) (0) (c) false (fin9n hx hxi hx0) (by omega)) hF
  · have hyi : y.is = true := by simp [want3, tagB] at ht; simp [ht]
    exact r_sw10 _ _ mc w wc k a b c x y z gM gR gI gA gB gC gT gV A sa m.mem hI (p61) (wy.key) (by omega) (hwf) (hLm) (fin1_ ((loadF m.mem y.key c).1) ((loadF m.mem y.key c).2) (1) true (fin10 hp hM hy hyi) (by omega)) hF
  · have hyi : y.is = true := by simp [want3, tagB] at ht; simp [ht]
    have hl4 := storeF_len' l1 y.key c x; refine r_sw11 _ _ mc w wc k a b c x y z gM gR gI gA gB gC gT gV A sa m.mem hI H64 p61 wy.key wx b1 b2 hwf hLm (fun A2 cp2 a' w' hF hI' => ?_) hF; have hrc := hI'.rowCap (i := 7) rfl; refine hK _ _ (r_fin (doF ⟨11, a, b, c⟩ m) mc _ { m with mem := (storeF m.mem y.key c x).1 } w k 11 a b c x y z Val.zero _ 1 false gM gR gI gA gB gC gT gV [.row 25 7 (.slice A2 (storeF m.mem y.key c x).1.length cp2) (storeF m.mem y.key c x).1.length ((storeF m.mem y.key c x).1.flatMap encV)] A2 S O cp2 ss so (fin11 hp hM hx hy hyi) ?_ h8 ha8 ⟨hrc.1, hrc.2, b3, b4, b5, b6⟩ ⟨hl4, l2, by show m.out.length ≤ 101; omega⟩ (fun X w' h => ⟨(InvT.own0 (enc := encV) (xs := (storeF m.mem y.key c x).1) (size := 7) h (i := 7) rfl).liesB (fun _ => rfl) rfl, h.lies hLs, h.lies hLo⟩) hpos (by omega) a' w' hF hI')
    rw [hmc, List.setIfInBounds_toArray, machL_mem h8]
  · have hz' := h7 (by simp)
    have hyi : y.is = true := by simp [want3, tagB] at ht; simp [ht]
    have hzi : z.is = false := by simp [want3, tagB] at ht; simp [ht]
    exact r_sw12 _ _ mc w wc k a b c x y z gM gR gI gA gB gC gT gV  hI (wy.key) ((wz hz').n) (fin1_ (⟨true, 0, (keyMove y.key z.n).1⟩) ((keyMove y.key z.n).2) (1) true (fin12 hp hy hz' hyi hzi) (by omega)) hF
  · have hz' := h7 (by simp)
    have hyi : y.is = true := by simp [want3, tagB] at ht; simp [ht]
    have hzi : z.is = false := by simp [want3, tagB] at ht; simp [ht]
    exact r_sw13 _ _ mc w wc k a b c x y z gM gR gI gA gB gC gT gV  hI (wy.key) ((wz hz').n) (fin1_ (⟨true, 0, (keyNarrow y.key z.n).1⟩) ((keyNarrow y.key z.n).2) (1) true (fin13 hp hy hz' hyi hzi) (by omega)) hF
  · have hyi : y.is = true := by simp [want3, tagB] at ht; simp [ht]
    exact r_sw14 _ _ mc w wc k a b c x y z gM gR gI gA gB gC gT gV  hI (wy.key) (fin1_ (⟨true, 0, (keyDrop y.key c).1⟩) ((keyDrop y.key c).2) (1) true (fin14 hp hy hyi) (by omega)) hF
  · have hz' := h7 (by simp)
    have hyi : y.is = true := by simp [want3, tagB] at ht; simp [ht]
    have hzi : z.is = true := by simp [want3, tagB] at ht; simp [ht]
    exact r_sw15 _ _ mc w wc k a b c x y z gM gR gI gA gB gC gT gV  hI (wy.key) ((wz hz').key) (fin1_ (⟨true, 0, (keySeal y.key z.key).1⟩) ((keySeal y.key z.key).2) (1) true (fin15 hp hy hz' hyi hzi) (by omega)) hF
  · have hz' := h7 (by simp)
    have hyi : y.is = true := by simp [want3, tagB] at ht; simp [ht]
    have hzi : z.is = true := by simp [want3, tagB] at ht; simp [ht]
    exact r_sw16 _ _ mc w wc k a b c x y z gM gR gI gA gB gC gT gV  hI (wy.key) ((wz hz').key) (fin1_ (⟨true, 0, (keyOpen y.key z.key).1⟩) ((keyOpen y.key z.key).2) (1) true (fin16 hp hy hz' hyi hzi) (by omega)) hF
  · have h5' := h5 rfl
    obtain ⟨cn, rfl⟩ : ∃ cn : Nat, c = cn := ⟨c.toNat, by omega⟩
    have hc6 : cn < 6 := (by omega); obtain ⟨r, hr⟩ := ask_at (y := y) hc6
    have hyi : 0 < cn → y.is = true := fun h => by
      have h' : (0 : Int) < cn := (by omega)
      simp [want3, tagB, h, truthOf] at ht
      simp [ht]
    exact r_sw17 _ _ mc w wc k a b cn x y z gM gR gI gA gB gC gT gV cn r hI (rfl) (hc6) (hr) (fin1_ (⟨false, r, Key.zero⟩) (0) (1) true (fin17 hp hy hc6 hyi r hr) (by omega)) hF
  · have hyi : x.is = true ∧ y.is = true := by simp [want3, tagB] at ht; simp [ht]
    have hd : doF ⟨18, a, b, c⟩ m = callF m x.key y.key := (by simp [doF, hx, hy, hyi.1, hyi.2]); clear fin1_
    rw [hd]
    have hat : ∀ w', Below w.heap.size w w' → MachV w' w'.heap.size mc m := fun w' hb => (hm'.below hb).more hb.size
    by_cases t0 : x.key.tag = 0
    · exact r_sw18_bad (RStep w (callF m x.key y.key)) K mc w wc k a b c x y z gM gR gI gA gB gC gT gV 11 hI h64 (fun w' hb => r_call_bad mc m w' (hat w' hb) x.key y.key 11 (.inl ⟨t0, rfl⟩)) (fun w' hb => RStep.err (by simp [callF, t0]) (by decide) hb) hF
    by_cases t1 : x.key.tag = y.key.tag
    · cases p3 : hasP 4 x.key.perm
      · exact r_sw18_bad (RStep w (callF m x.key y.key)) K mc w wc k a b c x y z gM gR gI gA gB gC gT gV 12 hI h64 (fun w' hb => r_call_bad mc m w' (hat w' hb) x.key y.key 12 (.inr (.inr (.inr (.inl ⟨t0, t1, p3, rfl⟩))))) (fun w' hb => RStep.err (by unfold callF; rw [if_neg (by rw [not_or]; exact ⟨t0, fun hn => hn t1⟩), if_pos (.inl p3)]) (by decide) hb) hF
      cases p4 : hasP 4 y.key.perm
      · by_cases hl : 16 ≤ m.stack.length
        · exact r_sw18_bad (RStep w (callF m x.key y.key)) K mc w wc k a b c x y z gM gR gI gA gB gC gT gV 9 hI h64 (fun w' hb => r_call_bad mc m w' (hat w' hb) x.key y.key 9 (.inr (.inr (.inr (.inr (.inr ⟨t0, t1, p3, p4, hl, rfl⟩)))))) (fun w' hb => RStep.err (by unfold callF; rw [if_neg (by rw [not_or]; exact ⟨t0, fun hn => hn t1⟩), if_neg (by simp [p3, p4]), if_pos hl]) (by decide) hb) hF
        · have hc0 : (callF m x.key y.key).2 = 0 := by unfold callF; rw [if_neg (by rw [not_or]; exact ⟨t0, fun hn => hn t1⟩), if_neg (by simp [p3, p4]), if_neg hl]
          exact r_sw18_ok (RStep w (callF m x.key y.key)) _ mc w wc k a b c x y z gM gR gI gA gB gC gT gV (callF m x.key y.key).1 hI h64 (fun w' hb => r_call_ok mc m w' (hat w' hb) l1 (by omega) (by omega) x.key y.key t0 t1 p3 p4 (by unfold wrap64; omega)) (fun ed w' hr => RStep.ok (by rw [← hc0]) hr) hF
      · exact r_sw18_bad (RStep w (callF m x.key y.key)) K mc w wc k a b c x y z gM gR gI gA gB gC gT gV 12 hI h64 (fun w' hb => r_call_bad mc m w' (hat w' hb) x.key y.key 12 (.inr (.inr (.inr (.inr (.inl ⟨t0, t1, p3, p4, rfl⟩)))))) (fun w' hb => RStep.err (by unfold callF; rw [if_neg (by rw [not_or]; exact ⟨t0, fun hn => hn t1⟩), if_pos (.inr p4)]) (by decide) hb) hF
    · by_cases t2 : y.key.tag = 0
      · exact r_sw18_bad (RStep w (callF m x.key y.key)) K mc w wc k a b c x y z gM gR gI gA gB gC gT gV 11 hI h64 (fun w' hb => r_call_bad mc m w' (hat w' hb) x.key y.key 11 (.inr (.inl ⟨t0, t2, rfl⟩))) (fun w' hb => RStep.err (by simp [callF, t1]) (by decide) hb) hF
      · exact r_sw18_bad (RStep w (callF m x.key y.key)) K mc w wc k a b c x y z gM gR gI gA gB gC gT gV 11 hI h64 (fun w' hb => r_call_bad mc m w' (hat w' hb) x.key y.key 11 (.inr (.inr (.inl ⟨t0, t2, t1, rfl⟩)))) (fun w' hb => RStep.err (by simp [callF, t1]) (by decide) hb) hF
  · have hd : doF ⟨19, a, b, c⟩ m = backF m := (by simp [doF]); clear fin1_
    rw [hd]
    rcases List.eq_nil_or_concat m.stack with hs | ⟨fs, f, hs⟩
    · rw [hs] at p62
      exact r_sw19_none (RStep w (backF m)) _ mc w wc k a b c x y z gM gR gI gA gB gC gT gV S ss hI p62 (fun w' hb => RStep.err (by simp [backF, hs]) (by decide) hb) hF
    · rw [List.concat_eq_append] at hs
      exact r_sw19_ok (RStep w (backF m)) _ mc w wc k a b c x y z gM gR gI gA gB gC gT gV m fs f hI hm' ⟨l1, l2, by omega⟩ hs (fun ed w' hr => RStep.ok (by simp [backF, hs]) hr) hF
  · exact r_sw20 _ _ mc w wc k a b c x y z gM gR gI gA gB gC gT gV m.code hI (p56) (p57) (p58) (p59) (p60) (fin1_ (⟨true, 0, m.code⟩) (0) (1) true (fin20 hp) (by omega)) hF
  · have hc0 : 0 ≤ c := instOk_c21 hi; refine r_sw21 _ _ mc w wc k a b c x y z gM gR gI gA gB gC gT gV m _ _ _ hI hmc h8 hc0 (fun a' w' hF hI' => ?_) hF; refine hK _ _ (r_fin (doF ⟨21, a, b, c⟩ m) mc _ (clearF m c) w k 21 a b c x y z Val.zero 0 1 false gM gR gI gA gB gC gT gV [] A S O sa ss so (fin21 hp) ?_ (by simp [clearF]) ha8 ⟨b1, b2, b3, b4, b5, b6⟩ ⟨l1, l2, by show m.out.length ≤ 101; omega⟩ (fun X w' h => ⟨h.lies hLm, h.lies hLs, h.lies hLo⟩) hpos (by omega) a' w' hF hI')
    rw [clrN_all m c h8]
    rfl
  · have hxi : x.is = false := by simp [want3, tagB] at ht; simp [ht]
    rcases Nat.lt_or_ge 99 m.out.length with hl | hl
    · refine r_sw22f _ _ mc w wc k a b c x y z gM gR gI gA gB gC gT gV O so m.out hI H64 p63 (by omega) (by omega) ⟨b5, b6⟩ hLo (fun A2 cp2 a' w' hF hI' => ?_) hF; have hrc := hI'.rowCap (i := 7) rfl; refine hK _ _ (r_fin (doF ⟨22, a, b, c⟩ m) mc _ { m with out := m.out ++ [x.n] } w k 22 a b c x y z Val.zero _ 1 false gM gR gI gA gB gC gT gV [.row 3 1 (.slice A2 (m.out ++ [x.n]).length cp2) (m.out ++ [x.n]).length ((m.out ++ [x.n]).flatMap encI)] A S A2 sa ss cp2 (fin22f hp hx hxi (by omega)) ?_ h8 ha8 ⟨b1, b2, b3, b4, hrc.1, hrc.2⟩ ⟨l1, l2, by simp only [List.length_append, List.length_cons, List.length_nil]; omega⟩ (fun X w' h => ⟨h.lies hLm, h.lies hLs, (InvT.own0 (enc := encI) (xs := m.out ++ [x.n]) (size := 1) h (i := 7) rfl).liesB (fun _ => rfl) rfl⟩) hpos (by omega) a' w' hF hI')
      rw [hmc, List.setIfInBounds_toArray, machL_out h8]
    · refine r_sw22 _ _ mc w wc k a b c x y z gM gR gI gA gB gC gT gV O so m.out hI H64 p63 (by omega) (by omega) ⟨b5, b6⟩ hLo (fun A2 cp2 a' w' hF hI' => ?_) hF; have hrc := hI'.rowCap (i := 7) rfl; refine hK _ _ (r_fin (doF ⟨22, a, b, c⟩ m) mc _ { m with out := m.out ++ [x.n] } w k 22 a b c x y z Val.zero _ 1 false gM gR gI gA gB gC gT gV [.row 3 1 (.slice A2 (m.out ++ [x.n]).length cp2) (m.out ++ [x.n]).length ((m.out ++ [x.n]).flatMap encI)] A S A2 sa ss cp2 (fin22 hp hx hxi (by omega)) ?_ h8 ha8 ⟨b1, b2, b3, b4, hrc.1, hrc.2⟩ ⟨l1, l2, by simp only [List.length_append, List.length_cons, List.length_nil]; omega⟩ (fun X w' h => ⟨h.lies hLm, h.lies hLs, (InvT.own0 (enc := encI) (xs := m.out ++ [x.n]) (size := 1) h (i := 7) rfl).liesB (fun _ => rfl) rfl⟩) hpos (by omega) a' w' hF hI')
      rw [hmc, List.setIfInBounds_toArray, machL_out h8]
end Go.Proofs.YthmpnnfejghhfaaGreatDoor
namespace Go.Proofs.YthmpnnfejghhfaaGreatDoor
open Go.RowKit
set_option maxRecDepth 100000
def trip (x y z : Int) : Value := .agg #[.int .i64 x, .int .i64 y, .int .i64 z]
def wantI (c : Int) : List (Nat × Int × Value) :=
  [(2, 3, trip 0 1 1), (4, 4, trip 0 1 1), (6, 5, trip 0 1 1), (8, 6, trip 0 1 1), (10, 7, trip 0 1 1), (12, 9, trip 1 0 0), (14, 10, trip 0 2 0), (16, 11, trip 0 2 0), (18, 12, trip 0 2 1), (20, 13, trip 0 2 1), (22, 14, trip 0 2 0), (24, 15, trip 0 2 2), (26, 16, trip 0 2 2),
   (33, 17, trip 0 (2 * truthOf (decide (0 < c))) 0), (35, 18, trip 2 2 0), (37, 22, trip 1 0 0)]
theorem want_eq (op c : Int) (h : 0 ≤ op ∧ op ≤ 22) : (entA (wantI c) op).getD (trip 0 0 0) = trip (want3 op c).1 (want3 op c).2.1 (want3 op c).2.2 := by
  rcases (show op = 0 ∨ op = 1 ∨ op = 2 ∨ op = 3 ∨ op = 4 ∨ op = 5 ∨ op = 6 ∨ op = 7 ∨ op = 8 ∨ op = 9 ∨ op = 10 ∨ op = 11 ∨ op = 12 ∨ op = 13 ∨ op = 14 ∨ op = 15 ∨ op = 16 ∨ op = 17 ∨ op = 18 ∨ op = 19 ∨ op = 20 ∨ op = 21 ∨ op = 22 by omega) with
    rfl | rfl | rfl | rfl | rfl | rfl | rfl | rfl | rfl | rfl | rfl | rfl | rfl | rfl | rfl | rfl | rfl | rfl | rfl | rfl | rfl | rfl | rfl <;> rfl
set_option maxRecDepth 1000000 in
set_option maxHeartbeats 8000000 in
theorem FrTags.el {mc : Array Value} {k : Nat} {gM gR gI gA gB gC gT : Nat} {a' : Act} {P : Act → Prop} (hF : FrTags mc k gM gR gI gA gB gC gT a') (h : ∀ Bd Bm Bn Bt Bu Bv Bw Bx By Bz Ca Cb Cc Cd Ce Cf Cg Ch Ci Cj Ck Cl Cm Cn Co Cp Cq Cr Cs Ct Cu Cv Cw Cx Cy Cz Da Db Dc Dd De Df Dg Dh Di Dj Dk Dl Dm Dn Do Dp Dq Dr Ds Dt Du Dv Dw Dx Dy Dz Fa Fb Fc Fd Fe Ff Fg Fh Fi Fj Fk Fl Fm Fn Fo Fp Fq Fr Fs Ft Fu Fv Fw Fx Fy Fz Ja Jb Jc Jd Je Jf Jg Jh Ji Jj Jk Jl Jm Jn Jo Jp Jq Jr Js Jt Ju Jv Jw Jx Jy Jz La Lb Lc Ld Le Lf Lg Lh Li Lj Lk Ll Lm Ln Lo Lp Lq Lr Ls Lt Lu Lv Lw Lx Ly Lz Ma Mb Mc Md Me Mf Mg Mh Mi Mj Mk Ml Mm Mn Mo Mp Mq Mr Ms Mt Mu Mv Mw Mx My Mz Pa Pb Pc Pd Pe Pf Pg Ph Pi Pj Pk Pl Pm Pn Po Pp Pq Pr Ps Pt Pu Pv Pw Px Py Pz Qa Qb Qc Qd Qe Qf Qg Qh Qi Qj Qk Ql Qm Qn Qo Qp Qq Qr Qs Qt Qu Qv Qw Qx Qy Qz Ra Rb Rc Rd Re Rf Rg Rh Ri Rj Rk Rl Rm Rn Ro Rp Rq Rr Rs Rt Ru Rv Rw Rx Ry Rz Ta Tb Tc Td Te Tf Tg Th Ti Tj Tk Tl Tm Tn To Tp Tq Tr Ts Tt Tu Tv Tw Tx Ty Tz Ua Ub Uc Ud Ue Uf Ug Uh Ui Uj Uk Ul Um Un Uo Up Uq Ur Us Ut Uu Uv Uw Ux Uy Uz Va Vb Vc Vd Ve Vf Vg Vh Vi Vj Vk Vl Vm Vn Vo Vp Vq Vr Vs Vt Vu Vv Vw Vx Vy Vz Wa Wb Wc Wd We Wf Wg Wh Wi Wj Wk Wl Wm Wn Wo Wp Wq Wr Ws Wt Wu Wv Ww Wx Wy Wz Xa Xb Xc Xd Xe Xf Xg Xh Xi Xj Xk Xl Xm Xn Xo Xp Xq Xr Xs Xt Xu Xv Xw Xx Xy Xz Ya Yb Yc Yd Ye Yf Yg Yh Yi Yj Yk Yl Ym Yn Yo Yp Yq Yr Ys Yt Yu Yv Yw Yx Yy Yz Za Zb Zc : Value, P { tmps := #[.agg mc, .pointer (some ⟨gM, 0, none⟩), .pointer (some ⟨gR, 0, none⟩), Bd, .func (.func 56) #[] #[], .int .i64 k, .int .i64 0, .pointer (some ⟨gI, 0, none⟩), .pointer (some ⟨gA, 0, none⟩), .pointer (some ⟨gB, 0, none⟩), .pointer (some ⟨gC, 0, none⟩), .pointer (some ⟨gT, 0, none⟩), Bm, Bn, undef, undef, undef, undef, undef, Bt, Bu, Bv, Bw, Bx, By, Bz, Ca, Cb, Cc, Cd, Ce, Cf, Cg, Ch, Ci, Cj, Ck, Cl, Cm, Cn, Co, Cp, Cq, Cr, Cs, Ct, Cu, Cv, Cw, Cx, Cy, Cz, Da, Db, Dc, Dd, De, Df, Dg, Dh, Di, Dj, Dk, Dl, Dm, Dn, Do, Dp, Dq, Dr, Ds, Dt, Du, Dv, Dw, Dx, Dy, Dz, Fa, Fb, Fc, Fd, Fe, Ff, Fg, Fh, Fi, Fj, Fk, Fl, Fm, Fn, Fo, Fp, Fq, Fr, Fs, Ft, Fu, Fv, Fw, Fx, Fy, Fz, Ja, Jb, Jc, Jd, Je, Jf, Jg, Jh, Ji, Jj, Jk, Jl, Jm, Jn, Jo, Jp, Jq, Jr, Js, Jt, Ju, Jv, Jw, Jx, Jy, Jz, La, Lb, Lc, Ld, Le, Lf, Lg, Lh, Li, Lj, Lk, Ll, Lm, Ln, Lo, Lp, Lq, Lr, Ls, Lt, Lu, Lv, Lw, Lx, Ly, Lz, Ma, Mb, Mc, Md, Me, Mf, Mg, Mh, Mi, Mj, Mk, Ml, Mm, Mn, Mo, Mp, Mq, Mr, Ms, Mt, Mu, Mv, Mw, Mx, My, Mz, Pa, Pb, Pc, Pd, Pe, Pf, Pg, Ph, Pi, Pj, Pk, Pl, Pm, Pn, Po, Pp, Pq, Pr, Ps, Pt, Pu, Pv, Pw, Px, Py, Pz, Qa, Qb, Qc, Qd, Qe, Qf, Qg, Qh, Qi, Qj, Qk, Ql, Qm, Qn, Qo, Qp, Qq, Qr, Qs, Qt, Qu, Qv, Qw, Qx, Qy, Qz, Ra, Rb, Rc, Rd, Re, Rf, Rg, Rh, Ri, Rj, Rk, Rl, Rm, Rn, Ro, Rp, Rq, Rr, Rs, Rt, Ru, Rv, Rw, Rx, Ry, Rz, Ta, Tb, Tc, Td, Te, Tf, Tg, Th, Ti, Tj, Tk, Tl, Tm, Tn, To, Tp, Tq, Tr, Ts, Tt, Tu, Tv, Tw, Tx, Ty, Tz, Ua, Ub, Uc, Ud, Ue, Uf, Ug, Uh, Ui, Uj, Uk, Ul, Um, Un, Uo, Up, Uq, Ur, Us, Ut, Uu, Uv, Uw, Ux, Uy, Uz, Va, Vb, Vc, Vd, Ve, Vf, Vg, Vh, Vi, Vj, Vk, Vl, Vm, Vn, Vo, Vp, Vq, Vr, Vs, Vt, Vu, Vv, Vw, Vx, Vy, Vz, Wa, Wb, Wc, Wd, We, Wf, Wg, Wh, Wi, Wj, Wk, Wl, Wm, Wn, Wo, Wp, Wq, Wr, Ws, Wt, Wu, Wv, Ww, Wx, Wy, Wz, Xa, Xb, Xc, Xd, Xe, Xf, Xg, Xh, Xi, Xj, Xk, Xl, Xm, Xn, Xo, Xp, Xq, Xr, Xs, Xt, Xu, Xv, Xw, Xx, Xy, Xz, Ya, Yb, Yc, Yd, Ye, Yf, Yg, Yh, Yi, Yj, Yk, Yl, Ym, Yn, Yo, Yp, Yq, Yr, Ys, Yt, Yu, Yv, Yw, Yx, Yy, Yz, Za, Zb, Zc], defers := [] }) : P a' := by
  unfold FrTags at hF
  iterate 403 (obtain ⟨_, hF⟩ := hF)
  subst hF
  apply h
set_option maxRecDepth 1000000 in
set_option maxHeartbeats 8000000 in
theorem r_mid (mc : Array Value) (m : Mach) (w wc : World) (k : Nat) (op : Int) (a b : Nat) (c : Int) (x y z : Val) (gM gR gI gA gB gC : Nat)
    (hm : MachV w w.heap.size mc m) (hM : MachOk m) (hi : instOk ⟨op, a, b, c⟩ = true) (ha8 : a < 8) (hp : 0 ≤ m.code.pos ∧ m.code.pos + 1 ≤ 400) (hx : regV m a = x) (hy : regV m b = y) (hz : (0 ≤ c ∧ c ≤ 7) → regV m c = z)
    (hI : InvT (fun _ => False) w [.box gM 31 mc, .box gR 31 zeroMC, .box gI 75 #[.int .i64 op, .int .i64 a, .int .i64 b, .int .i64 c], .box gA 25 #[.bool x.is, .int .i64 x.n, .int .i64 x.key.perm, .int .i64 x.key.base, .int .i64 x.key.len, .int .i64 x.key.pos, .int .i64 x.key.tag], .box gB 25 #[.bool y.is, .int .i64 y.n, .int .i64 y.key.perm, .int .i64 y.key.base, .int .i64 y.key.len, .int .i64 y.key.pos, .int .i64 y.key.tag], .box gC 25 #[.bool z.is, .int .i64 z.n, .int .i64 z.key.perm, .int .i64 z.key.base, .int .i64 z.key.len, .int .i64 z.key.pos, .int .i64 z.key.tag]] wc)
    {Bt Bu Bv Bw Bx By Bz Ca Cb Cc Cd Ce Cf Cg Ch Ci Cj Ck Cl Cm Cn Co Cp Cq Cr Cs Ct Cu Cv Cw Cx Cy Cz Da Db Dc Dd De Df Dg Dh Di Dj Dk Dl Dm Dn Do Dp Dq Dr Ds Dt Du Dv Dw Dx Dy Dz Fa Fb Fc Fd Fe Ff Fg Fh Fi Fj Fk Fl Fm Fn Fo Fp Fq Fr Fs Ft Fu Fv Fw Fx Fy Fz Ja Jb Jc Jd Je Jf Jg Jh Ji Jj Jk Jl Jm Jn Jo Jp Jq Jr Js Jt Ju Jv Jw Jx Jy Jz La Lb Lc Ld Le Lf Lg Lh Li Lj Lk Ll Lm Ln Lo Lp Lq Lr Ls Lt Lu Lv Lw Lx Ly Lz Ma Mb Mc Md Me Mf Mg Mh Mi Mj Mk Ml Mm Mn Mo Mp Mq Mr Ms Mt Mu Mv Mw Mx My Mz Pa Pb Pc Pd Pe Pf Pg Ph Pi Pj Pk Pl Pm Pn Po Pp Pq Pr Ps Pt Pu Pv Pw Px Py Pz Qa Qb Qc Qd Qe Qf Qg Qh Qi Qj Qk Ql Qm Qn Qo Qp Qq Qr Qs Qt Qu Qv Qw Qx Qy Qz Ra Rb Rc Rd Re Rf Rg Rh Ri Rj Rk Rl Rm Rn Ro Rp Rq Rr Rs Rt Ru Rv Rw Rx Ry Rz Ta Tb Tc Td Te Tf Tg Th Ti Tj Tk Tl Tm Tn To Tp Tq Tr Ts Tt Tu Tv Tw Tx Ty Tz Ua Ub Uc Ud Ue Uf Ug Uh Ui Uj Uk Ul Um Un Uo Up Uq Ur Us Ut Uu Uv Uw Ux Uy Uz Va Vb Vc Vd Ve Vf Vg Vh Vi Vj Vk Vl Vm Vn Vo Vp Vq Vr Vs Vt Vu Vv Vw Vx Vy Vz Wa Wb Wc Wd We Wf Wg Wh Wi Wj Wk Wl Wm Wn Wo Wp Wq Wr Ws Wt Wu Wv Ww Wx Wy Wz Xa Xb Xc Xd Xe Xf Xg Xh Xi Xj Xk Xl Xm Xn Xo Xp Xq Xr Xs Xt Xu Xv Xw Xx Xy Xz Ya Yb Yc Yd Ye Yf Yg Yh Yi Yj Yk Yl Ym Yn Yo Yp Yq Yr Ys Yt Yu Yv Yw Yx Yy Yz Za Zb Zc : Value} :
    Code.wp Tryz.prog midCode (bodyPost Tryz.prog Tryz.f31 (RStep w (doF ⟨op, a, b, c⟩ m))) { tmps := #[.agg mc, .pointer (some ⟨gM, 0, none⟩), .pointer (some ⟨gR, 0, none⟩), .int .i64 0, .func (.func 56) #[] #[], .int .i64 k, .int .i64 0, .pointer (some ⟨gI, 0, none⟩), .pointer (some ⟨gA, 0, none⟩), .pointer (some ⟨gB, 0, none⟩), .pointer (some ⟨gC, 0, none⟩), undef, undef, undef, undef, undef, undef, undef, undef, Bt, Bu, Bv, Bw, Bx, By, Bz, Ca, Cb, Cc, Cd, Ce, Cf, Cg, Ch, Ci, Cj, Ck, Cl, Cm, Cn, Co, Cp, Cq, Cr, Cs, Ct, Cu, Cv, Cw, Cx, Cy, Cz, Da, Db, Dc, Dd, De, Df, Dg, Dh, Di, Dj, Dk, Dl, Dm, Dn, Do, Dp, Dq, Dr, Ds, Dt, Du, Dv, Dw, Dx, Dy, Dz, Fa, Fb, Fc, Fd, Fe, Ff, Fg, Fh, Fi, Fj, Fk, Fl, Fm, Fn, Fo, Fp, Fq, Fr, Fs, Ft, Fu, Fv, Fw, Fx, Fy, Fz, Ja, Jb, Jc, Jd, Je, Jf, Jg, Jh, Ji, Jj, Jk, Jl, Jm, Jn, Jo, Jp, Jq, Jr, Js, Jt, Ju, Jv, Jw, Jx, Jy, Jz, La, Lb, Lc, Ld, Le, Lf, Lg, Lh, Li, Lj, Lk, Ll, Lm, Ln, Lo, Lp, Lq, Lr, Ls, Lt, Lu, Lv, Lw, Lx, Ly, Lz, Ma, Mb, Mc, Md, Me, Mf, Mg, Mh, Mi, Mj, Mk, Ml, Mm, Mn, Mo, Mp, Mq, Mr, Ms, Mt, Mu, Mv, Mw, Mx, My, Mz, Pa, Pb, Pc, Pd, Pe, Pf, Pg, Ph, Pi, Pj, Pk, Pl, Pm, Pn, Po, Pp, Pq, Pr, Ps, Pt, Pu, Pv, Pw, Px, Py, Pz, Qa, Qb, Qc, Qd, Qe, Qf, Qg, Qh, Qi, Qj, Qk, Ql, Qm, Qn, Qo, Qp, Qq, Qr, Qs, Qt, Qu, Qv, Qw, Qx, Qy, Qz, Ra, Rb, Rc, Rd, Re, Rf, Rg, Rh, Ri, Rj, Rk, Rl, Rm, Rn, Ro, Rp, Rq, Rr, Rs, Rt, Ru, Rv, Rw, Rx, Ry, Rz, Ta, Tb, Tc, Td, Te, Tf, Tg, Th, Ti, Tj, Tk, Tl, Tm, Tn, To, Tp, Tq, Tr, Ts, Tt, Tu, Tv, Tw, Tx, Ty, Tz, Ua, Ub, Uc, Ud, Ue, Uf, Ug, Uh, Ui, Uj, Uk, Ul, Um, Un, Uo, Up, Uq, Ur, Us, Ut, Uu, Uv, Uw, Ux, Uy, Uz, Va, Vb, Vc, Vd, Ve, Vf, Vg, Vh, Vi, Vj, Vk, Vl, Vm, Vn, Vo, Vp, Vq, Vr, Vs, Vt, Vu, Vv, Vw, Vx, Vy, Vz, Wa, Wb, Wc, Wd, We, Wf, Wg, Wh, Wi, Wj, Wk, Wl, Wm, Wn, Wo, Wp, Wq, Wr, Ws, Wt, Wu, Wv, Ww, Wx, Wy, Wz, Xa, Xb, Xc, Xd, Xe, Xf, Xg, Xh, Xi, Xj, Xk, Xl, Xm, Xn, Xo, Xp, Xq, Xr, Xs, Xt, Xu, Xv, Xw, Xx, Xy, Xz, Ya, Yb, Yc, Yd, Ye, Yf, Yg, Yh, Yi, Yj, Yk, Yl, Ym, Yn, Yo, Yp, Yq, Yr, Ys, Yt, Yu, Yv, Yw, Yx, Yy, Yz, Za, Zb, Zc], defers := [] } wc := by
  have HD := Lib.hid (fun ht => doF_bad (x := x) (y := y) (z := z) hi hx hy hz ht); have HW := Lib.hid (want_eq op c (instOk_in hi).1); have HSW := Lib.hid (And.intro hm (And.intro hM (And.intro hi (And.intro ha8 (And.intro hp (And.intro hx (And.intro hy hz))))))); clear hm hM hi ha8 hp hx hy hz
  have hw2 : ∀ t : Int, 0 ≤ t → t ≤ 1 → IntKind.i64.wrap (2 * t) = 2 * t := fun t h1 h2 => by rw [IntWalk.i64_left]; unfold wrap64; omega
  have ht01 : 0 ≤ truthOf (decide (0 < c)) ∧ truthOf (decide (0 < c)) ≤ 1 := by cases decide (0 < c) <;> decide
  have hw3 := hw2 _ ht01.1 ht01.2; clear hw2
  conv => arg 2; whnf
  have cF := hI.facts; (try simp only [mm] at cF)
  go_wp2_with fail
  (refine wp_region_K [2] (by kernel_rfl) hI fun w' hI' hHeld => ?_; (try clear hb); refine am92 ?_; clear hI hI'; (try clear cF); intro hI cF)
  refine wpAnyH_swap (i := 30) (o := ?o) (o' := ⟨some 95, .pick (.tmp 94) (.const (.int .i64 1)) (.const (.int .i64 0)), 3, "", #[{ on := 29, ground := Ground.data }], none⟩) (ops' := ?ops) ?h1 ?h2 ?h3 ?h4 ?h5 ?h6 ?h7 _ _ _ _ hHeld ?main
  case h1 => rfl
  case h2 => rfl
  case h3 => rfl
  case h4 => kernel_rfl
  case h5 => rfl
  case h6 => exact fun K a w _ h => truth_pick h
  case h7 => exact fun a w => pick_asks
  simp only [List.setIfInBounds_toArray, List.set_cons_succ, List.set_cons_zero]; (refine tk 1 ?_; (try simp only [np, Act.put])); (refine tk 3 ?_; (try simp only [np, Act.put])); (refine tk 5 ?_; (try simp only [np, Act.put])); (refine tk 7 ?_; (try simp only [np, Act.put])); (refine tk 9 ?_; (try simp only [np, Act.put])); (refine tk 11 ?_; (try simp only [np, Act.put])); (refine tk 13 ?_; (try simp only [np, Act.put])); (refine tk 15 ?_; (try simp only [np, Act.put])); (refine tk 17 ?_; (try simp only [np, Act.put])); (refine tk 19 ?_; (try simp only [np, Act.put])); (refine tk 21 ?_; (try simp only [np, Act.put])); (refine tk 23 ?_; (try simp only [np, Act.put])); (refine tk 25 ?_; (try simp only [np, Act.put])); (refine tk 27 ?_; (try simp only [np, Act.put])); (refine tk 28 ?_; (try simp only [np, Act.put])); (refine tk 29 ?_; (try simp only [np, Act.put]))
  (refine takeH (i := 30) rfl (by kernel_rfl) (by kernel_rfl) (by kernel_rfl) (fun _ _ _ _ h => h) (by rfl) (by assumption) ?_; refine' ⟨.int .i64 (truthOf (decide (0 < c))), ?_, ?_⟩; (focus (intro w hSw; go_simp; by_cases hc0 : 0 < c <;> simp [truthOf, hc0])); (try simp only [Act.put, List.setIfInBounds_toArray, List.set_cons_zero, List.set_cons_succ]))
  (refine tk 31 ?_; (try simp only [np, Act.put])); (refine tk 32 ?_; (try simp only [np, Act.put])); (refine tk 34 ?_; (try simp only [np, Act.put])); (refine tk 36 ?_; (try simp only [np, Act.put])); (refine tk 39 ?_; (try simp only [np, Act.put])); (refine tk 40 ?_; (try simp only [np, Act.put])); (try clear cF); skip
  revert hI; revert hHeld
  apply ordersM (T := _) (w0 := _)
  case hmain =>
    intro hcont hHeld hI; have cF := hI.facts; have cF := hI.facts; (try simp only [mm] at cF)
    refine twoH (i := 0) (j := 42) (by kernel_rfl) rfl rfl (fun K hK => ?_) (fun K hK => ?_)
    · (refine stepI rfl (wpI_makeMap _ rfl hI fun gm w' hI' hb => hK.out _ _ (hI'.held (by simp)) (fun hHeld => ?_)); clear hK K; (try clear hb); refine am103 ?_; clear hI hI'; (try clear cF); intro hI cF)
      exact mapPhase' (rs := [_, _, _, _, _, _]) (wantI c) 38 41 42 100 103 11 78 102 _ ((Array.replicate 43 true).push false) 105 3 103 103 (trip 0 0 0) #[.int .i64 0, .int .i64 0, .int .i64 0] op _ gm 0 [42] false rfl
        ⟨by kernel_rfl, fun x hx => by (simp only [wantI, List.mem_cons, List.not_mem_nil, or_false] at hx; rcases hx with rfl | rfl | rfl | rfl | rfl | rfl | rfl | rfl | rfl | rfl | rfl | rfl | rfl | rfl | rfl | rfl <;> exact ⟨_, _, rfl, rfl, rfl, rfl, by decide, by decide, by decide, rfl, by kernel_rfl⟩), ⟨_, rfl, rfl, rfl, rfl, by kernel_rfl, by kernel_rfl⟩, ⟨_, rfl, rfl, rfl, rfl, by kernel_rfl, by kernel_rfl⟩, ⟨_, rfl, rfl, rfl, rfl, rfl⟩⟩
        Tryz.underlying105 Tryz.underlying3 Tryz.zeroValue103 rfl rfl Tryz.zeroValue103 rfl (by intro i hi; simp only [List.mem_cons, List.not_mem_nil, or_false] at hi; subst hi; exact ⟨by simp, rfl⟩) 1 (fun es clock ga w hI hH => hcont es clock gm ga w hI) hI rfl rfl
    · (refine stepI rfl (wpI_alloc 103 rfl hI Tryz.zeroValue103 (cs := #[.int .i64 0, .int .i64 0, .int .i64 0]) (by first | rfl | kernel_rfl) fun gx w' hI' hb => hK.out _ _ (hI'.held (by simp)) (fun hHeld => ?_)); clear hK K; (try clear hb); refine am103 ?_; clear hI hI'; (try clear cF); intro hI cF)
      obtain ⟨ga, rfl⟩ : ∃ y, y = gx := ⟨_, rfl⟩
      refine oneH (i := 0) (by kernel_rfl) rfl (fun K hK => ?_); (refine stepI rfl (wpI_makeMap _ rfl hI fun gm w' hI' hb => hK.out _ _ (hI'.held (by simp)) (fun hHeld => ?_)); clear hK K; (try clear hb); refine am103 ?_; clear hI hI'; (try clear cF); intro hI cF); replace hI := InvT.swapAt 6 hI rfl rfl; (try simp only [List.cons_append, List.nil_append, List.set_cons_zero, List.set_cons_succ, List.setIfInBounds_toArray, Act.put, Act.eval, Array.getD_eq_getD_getElem?, List.getElem?_toArray, List.getElem?_cons_zero, List.getElem?_cons_succ, Option.getD_some] at hI)
      exact mapPhase' (rs := [_, _, _, _, _, _]) (wantI c) 38 41 42 100 103 11 78 102 _ ((Array.replicate 43 true).push false) 105 3 103 103 (trip 0 0 0) #[.int .i64 0, .int .i64 0, .int .i64 0] op _ gm ga [] true rfl
        ⟨by kernel_rfl, fun x hx => by (simp only [wantI, List.mem_cons, List.not_mem_nil, or_false] at hx; rcases hx with rfl | rfl | rfl | rfl | rfl | rfl | rfl | rfl | rfl | rfl | rfl | rfl | rfl | rfl | rfl | rfl <;> exact ⟨_, _, rfl, rfl, rfl, rfl, by decide, by decide, by decide, rfl, by kernel_rfl⟩), ⟨_, rfl, rfl, rfl, rfl, by kernel_rfl, by kernel_rfl⟩, ⟨_, rfl, rfl, rfl, rfl, by kernel_rfl, by kernel_rfl⟩, ⟨_, rfl, rfl, rfl, rfl, rfl⟩⟩
        Tryz.underlying105 Tryz.underlying3 Tryz.zeroValue103 rfl rfl Tryz.zeroValue103 rfl (by intro i hi; simp only [List.mem_cons, List.not_mem_nil, or_false] at hi; subst hi; exact ⟨by simp, rfl⟩) 1 (fun es clock ga w hI hH => hcont es clock gm ga w hI) hI rfl rfl
  have hI := trivial; have cF := trivial; intro es clock gm ga w' hI'
  (try clear hb); refine am92 ?_; clear hI hI'; (try clear cF); intro hI cF
  rw [HW.out]
  obtain ⟨wa, hwa⟩ : ∃ y, y = (want3 op c).1 := ⟨_, rfl⟩
  obtain ⟨wb, hwb⟩ : ∃ y, y = (want3 op c).2.1 := ⟨_, rfl⟩
  obtain ⟨wd, hwd⟩ : ∃ y, y = (want3 op c).2.2 := ⟨_, rfl⟩
  rw [← hwa, ← hwb, ← hwd]
  have HWA := Lib.hid hwa; have HWB := Lib.hid hwb; have HWD := Lib.hid hwd; clear hwa hwb hwd; simp only [trip]; simp only [Act.put, List.setIfInBounds_toArray, List.set_cons_succ, List.set_cons_zero]; refine oneH (i := 43) (by kernel_rfl) rfl (fun K hK => ?_)
  (refine am193 ?_; intro w' hI' hHeld; clear hK K; (try clear hb); refine am103 ?_; clear hI hI'; (try clear cF); intro hI cF)
  refine wpAnyH_done (by kernel_rfl) ?_ _; clear hHeld
  go_upto_block 0 with (first | (refine listI rfl fun K hK => wpI_sliceN _ _ _ 7 _ (.agg #[.bool Val.zero.is, .int .i64 Val.zero.n, .int .i64 Val.zero.key.perm, .int .i64 Val.zero.key.base, .int .i64 Val.zero.key.len, .int .i64 Val.zero.key.pos, .int .i64 Val.zero.key.tag]) #[.bool x.is, .int .i64 x.n, .int .i64 x.key.perm, .int .i64 x.key.base, .int .i64 x.key.len, .int .i64 x.key.pos, .int .i64 x.key.tag, .bool y.is, .int .i64 y.n, .int .i64 y.key.perm, .int .i64 y.key.base, .int .i64 y.key.len, .int .i64 y.key.pos, .int .i64 y.key.tag, .bool z.is, .int .i64 z.n, .int .i64 z.key.perm, .int .i64 z.key.base, .int .i64 z.key.len, .int .i64 z.key.pos, .int .i64 z.key.tag] rfl hI Tryz.underlying27 (by kernel_rfl) (by decide) (by decide) (by rfl) fun gx w' hI' hb => hK _ _ ?_; clear hK K; (try clear hb); refine am92 ?_; clear hI hI'; (try clear cF); intro hI cF) | fail)
  rename_i K hK
  have hS := hI.alloc 25 #[.bool x.is, .int .i64 x.n, .int .i64 x.key.perm, .int .i64 x.key.base, .int .i64 x.key.len, .int .i64 x.key.pos, .int .i64 x.key.tag, .bool y.is, .int .i64 y.n, .int .i64 y.key.perm, .int .i64 y.key.base, .int .i64 y.key.len, .int .i64 y.key.pos, .int .i64 y.key.tag, .bool z.is, .int .i64 z.n, .int .i64 z.key.perm, .int .i64 z.key.base, .int .i64 z.key.len, .int .i64 z.key.pos, .int .i64 z.key.tag]; simp only [List.cons_append, List.nil_append] at hS; replace hS := (hS.perm ((((((List.perm_append_comm (l₁ := [_]) (l₂ := [_, _])).cons _).cons _).cons _).cons _).cons _ |>.cons _)).first [_, _, _, _, _, _, _, _] [_] rfl
  refine r_tags (RStep w (doF ⟨op, a, b, c⟩ m)) K mc w _ k op a b c x y z wa wb wd gM gR gI gA gB gC ga _ hS ?hbad ?hok
  case hbad =>
    intro ht w2 hb
    exact RStep.err (HD.out (by rw [← HWA.out, ← HWB.out, ← HWD.out]; exact ht)) (by decide) hb
  case hok =>
    intro ht a' w2 hF hI2; refine hK _ _ ?_; have HTT := Lib.hid ht; clear ht hS hK hI; have hI := hI2; clear hI2; refine FrTags.el (P := fun a => Code.wp _ _ _ a _) hF ?_; clear hF; intros
    refine am160 ?_; (try clear cF); intro cF
    go_upto_block 2 with (first | ((with_reducible refine at_alloc ?_); first | (refine listI rfl fun K hK => wpI_alloc 25 rfl hI Tryz.zeroValue25 (cs := #[.bool Val.zero.is, .int .i64 Val.zero.n, .int .i64 Val.zero.key.perm, .int .i64 Val.zero.key.base, .int .i64 Val.zero.key.len, .int .i64 Val.zero.key.pos, .int .i64 Val.zero.key.tag]) (by first | rfl | kernel_rfl) fun gx w' hI' hb => hK _ _ ?_; clear hK K; (try clear hb); refine am92 ?_; clear hI hI'; (try clear cF); intro hI cF)) | ((with_reducible refine at_store ?_); first | (refine listI rfl fun K hK => wpI_storeW _ _ _ rfl hI rfl 7 rfl rfl rfl (by kernel_rfl) (by simp [Value.oneCell']) fun w' hI' => hK _ _ ?_; clear hK K; (try clear hb); refine am92 ?_; clear hI hI'; (try clear cF); intro hI cF)) | fail)
    rename_i K2 hK2
    have hI3 := (hI.perm ((((List.perm_middle (l₁ := [_, _, _, _]) (l₂ := [])).cons _).cons _).cons _)).first [_, _, _, _, _, _, _] [_] rfl
    exact r_switch K2 mc m w _ k op a b c x y z gM gR gI gA gB gC ga _ HSW.out.1 HSW.out.2.1 HSW.out.2.2.1 HSW.out.2.2.2.1 HSW.out.2.2.2.2.1 HSW.out.2.2.2.2.2.1 HSW.out.2.2.2.2.2.2.1 HSW.out.2.2.2.2.2.2.2 (by rw [← HWA.out, ← HWB.out, ← HWD.out]; exact HTT.out) (fun a' w' h => hK2 a' w' h) hI3 (by unfold FrOp; (repeat apply Exists.intro); rfl)
end Go.Proofs.YthmpnnfejghhfaaGreatDoor
