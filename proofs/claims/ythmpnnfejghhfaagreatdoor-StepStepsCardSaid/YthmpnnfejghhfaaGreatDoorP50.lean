/- What the parts say: The laws of Step: the program's Step returns what the reference returns. Conditions: Go's tables hold what they were laid with, which the cards tie. -/
import Derived.Test.YthmpnnfejghhfaaGreatDoorP44
import Derived.Test.YthmpnnfejghhfaaGreatDoorP47
import Derived.Test.YthmpnnfejghhfaaGreatDoorP49
set_option linter.unusedVariables false
set_option linter.unusedSimpArgs false
namespace Go.Proofs.YthmpnnfejghhfaaGreatDoor
open Go.ChangeShapes Go.WideShapes Go.ChangeAt Go.RowKit
set_option maxRecDepth 100000
theorem stepF_lens (m : Mach) : (stepF m).1.mem.length < 9223372036854775807 ∧ (stepF m).1.stack.length < 9223372036854775807 ∧ (stepF m).1.out.length < 9223372036854775807 := by
  have lt0 : (0 : Nat) < 9223372036854775807 := (by decide); unfold stepF
  split
  · exact ⟨lt0, lt0, lt0⟩
  · rename_i h
    split
    · rename_i he
      have h1 := oneF_ok (machE_ok (by simpa using h)) he
      have := h1.len
      have := h1.deep
      have := h1.outs
      refine ⟨?_, ?_, ?_⟩ <;> simp <;> omega
    · exact ⟨lt0, lt0, lt0⟩
end Go.Proofs.YthmpnnfejghhfaaGreatDoor
namespace Go.Proofs.YthmpnnfejghhfaaGreatDoor
open Go.ChangeShapes Go.WideShapes Go.ChangeAt Go.RowKit
set_option maxRecDepth 100000
set_option maxHeartbeats 1000000 in
theorem r_Has_I (A : Option Addr) (c : Nat) (xs : List Int) (x : Int) (w : World) (hn : xs.length ≤ maxLen) (hL : Lies encI 1 w w.heap.size A xs) :
    Calls Tryz.prog 34 #[.slice A xs.length c, .int .i64 x] w (Ret (.bool (xs.any fun y => decide (y = x))) w) := by
  have hI := Inv.start w; have cF := hI.facts; have HL := Lib.hid hL
  have hmx : xs.length ≤ 9223372036854775807 := by unfold maxLen at hn; omega
  clear hL hn
  go_enter Tryz.func34, Tryz.ntmps34
  go_wp2_with fail
  go_loopw [9] (fun v wr => ∃ k : Nat, v = .int .i64 k ∧ k ≤ xs.length ∧ (∀ j, j < k → xs[j]? ≠ some x) ∧ Inv w [] wr) (fun v _ => (xs.length - intOf v).toNat)
  case atStart => exact ⟨0, rfl, by omega, fun j hj => by omega, hI⟩
  case round =>
    clear hI
    obtain ⟨k, rfl, hk, hall, hI⟩ := hrel
    have HA := Lib.hid hall; clear hall
    rcases Nat.lt_or_ge k xs.length with hlt | hge
    · obtain ⟨b, o, p, rfl, hb, hp, q0⟩ := (hI.lies HL.out).cellsI hlt
      have HP := Lib.hid hp; clear hp
      cases hd : (x == p)
      · have hne : ¬ x = p := (by simpa using hd)
        have H := Lib.hid (show ∀ j, j < k + 1 → xs[j]? ≠ some x from fun j hj => by
          rcases Nat.lt_or_ge j k with h | h
          · exact HA.out j h
          · obtain rfl : j = k := by omega
            rw [HP.out]; exact fun h => hne (Option.some.inj h).symm)
        clear hne
        go_wp2_with fail
        go_roundw
        case rel => exact ⟨k + 1, by go_num, by omega, H.out, hI⟩
        case measure => simp [intOf]; omega
      · have H := Lib.hid (show (xs.any fun y => decide (y = x)) = true from (by
          have hx : x = p := (by simpa using hd)
          rw [List.any_eq_true]; exact ⟨p, List.mem_of_getElem? HP.out, decide_eq_true hx.symm⟩))
        go_wp2_with fail
        go_returns
        exact Ret.bool H.out.symm hI.below
    · have H := Lib.hid (show (xs.any fun y => decide (y = x)) = false from by
        rw [Bool.eq_false_iff, ne_eq, List.any_eq_true]
        rintro ⟨y, hy, hx⟩; obtain ⟨j, hj⟩ := List.getElem?_of_mem hy
        rw [of_decide_eq_true hx] at hj
        exact HA.out j (by have := (List.getElem?_eq_some_iff.1 hj).1; omega) hj)
      go_wp2_with fail
      go_returns
      exact Ret.bool H.out.symm hI.below
def smallM : Mach := ⟨List.replicate 8 Val.zero, ⟨4, 0, 1, 0, 0⟩, [⟨false, 4206625, Key.zero⟩], [], []⟩
theorem small_pack : packF ⟨1, 1, 0, 6⟩ = (4206625, 0) := by decide
theorem small_two : (stepF smallM).2 = 0 := by kernel_rfl
theorem small_reg : (stepF smallM).1.regs[1]? = some ⟨false, 6, Key.zero⟩ := by kernel_rfl
theorem lm {ops : Array Oper} {rest : List Oper} {o : Oper} {a : Act} {T : Nat → Prop} {w0 w : World} {rs : List Res} {Q : Exit → Act → World → Prop} {x : Operand} {g : Nat} {t : TypeId} {cs : Array Value} (i : Nat) (hI : InvT T w0 rs w) (h : wpList Tryz.prog ops Q rest (a.put o.dst (.agg cs)) w)
    (hg : o.guard = none := by rfl) (ho : o.op = .load 31 x := by rfl) (hi : rs[i]? = some (.box g t cs) := by rfl) (hx : a.eval x = .pointer (some ⟨g, 0, none⟩) := by rfl)
    (hs : (Tryz.prog.info? 31).map (·.size) = some cs.size := by first | (simp only [HZ.out]; kernel_rfl) | (simp only [HZ1.out]; kernel_rfl) | (simp only [HZ2.out]; kernel_rfl)) : wpList Tryz.prog ops Q (o :: rest) a w :=
  wpList_load_box hg 31 x ho (hI.box hi) hx Tryz.underlying31 rfl hs h
theorem lvm {ops : Array Oper} {rest : List Oper} {o1 o2 : Oper} {a : Act} {T : Nat → Prop} {w0 w : World} {rs : List Res} {Q : Exit → Act → World → Prop} {x y : Operand} {cells : Array Value} {z : Value} (hI : InvT T w0 rs w) (hz : ∀ w, (zeroValue 31).run Tryz.prog w = .ok z w)
    (h : ∀ g w', InvT T w0 (rs ++ [.box g 31 cells]) w' → Below w.heap.size w w' → wpList Tryz.prog ops Q rest ((a.put o1.dst (.pointer (some ⟨g, 0, none⟩))).put o2.dst undef) w')
    (hg1 : o1.guard = none := by rfl) (hg2 : o2.guard = none := by rfl) (ho1 : o1.op = .alloc 31 := by rfl) (ho2 : o2.op = .store 31 x y := by rfl) (hx : ∀ u, (a.put o1.dst u).eval x = u := by exact fun _ => rfl) (hy : ∀ u, (a.put o1.dst u).eval y = .agg cells := by exact fun _ => rfl)
    (hc : z.cells.size = cells.size := by first | (simp only [HZ0.out]; first | done | rfl | kernel_rfl) | (simp only [HZ1.out]; first | done | rfl | kernel_rfl) | (simp only [HZ2.out]; first | done | rfl | kernel_rfl))
    (hi : (Tryz.prog.info? 31).map (·.size) = some cells.size := by first | (simp only [HZ0.out]; kernel_rfl) | (simp only [HZ1.out]; kernel_rfl) | (simp only [HZ2.out]; kernel_rfl)) (h1 : cells.all (·.oneCell') = true := by first | exact HO0.out | exact HOM1.out | exact HOM2.out) : wpList Tryz.prog ops Q (o1 :: o2 :: rest) a w :=
  listI_var hg1 hg2 31 ho1 x y ho2 hI hz hx hy hc hi h1 h
set_option maxHeartbeats 16000000 in
theorem steps_any (mc : Array Value) (m : Mach) (hwf : m.Wf) (w : World) (hm : MachV w w.heap.size mc m) (hE : Env w) (gs : Nat) (n : Nat) (xs : List Int) (hxn : xs.length = n) (hx : xs.length ≤ maxLen) (hLx : Lies encI 1 w w.heap.size (some ⟨gs, 0, none⟩) xs) :
    Calls Tryz.prog 15 #[.agg mc, .slice (some ⟨gs, 0, none⟩) n n] w (Ret (.bool true) w) := by
  subst hxn
  obtain ⟨A, S, O, sa, ss, so, p56, p57, p58, p59, p60, p61, p62, p63, hma, -, -, -, -, -, hLm, hLs, hLo, hreg⟩ := hm.cells
  have hcase : m.code.pos < 0 ∨ (0 ≤ m.code.pos ∧ (m.mem.length : Int) ≤ m.code.pos) ∨
      (∃ (k : Nat) (v : Val) (be oe : Nat) (iop ia ib ic ie : Int), m.code.pos = k ∧ (k : Int) < m.mem.length ∧ (k : Int) < sa ∧ A = some ⟨be, oe, none⟩ ∧ (∀ w', Below w.heap.size w w' → w'.cell? ⟨be, oe + k * 7, none⟩ = some (.bool v.is) ∧ w'.cell? ⟨be, oe + k * 7 + 1, none⟩ = some (.int .i64 v.n)) ∧ (∀ w, Env w → Calls Tryz.prog 33 #[.int .i64 v.n] w (Ret (.tuple #[.agg #[.int .i64 iop, .int .i64 ia, .int .i64 ib, .int .i64 ic], .int .i64 ie]) w)) ∧ (ie == 0) = false) ∨
      (∃ (b : Bool) (k : Nat) (v : Val) (be oe : Nat) (iop ia ib ic ie : Int), m.code.pos = k ∧ (k : Int) < m.mem.length ∧ (k : Int) < sa ∧ A = some ⟨be, oe, none⟩ ∧ (∀ w', Below w.heap.size w w' → w'.cell? ⟨be, oe + k * 7, none⟩ = some (.bool v.is) ∧ w'.cell? ⟨be, oe + k * 7 + 1, none⟩ = some (.int .i64 v.n)) ∧ (∀ w, Env w → Calls Tryz.prog 33 #[.int .i64 v.n] w (Ret (.tuple #[.agg #[.int .i64 iop, .int .i64 ia, .int .i64 ib, .int .i64 ic], .int .i64 ie]) w)) ∧ ie = 0 ∧ (∀ w, Lies encI 1 w w.heap.size (some ⟨gs, 0, none⟩) xs → Calls Tryz.prog 34 #[.slice (some ⟨gs, 0, none⟩) xs.length xs.length, .int .i64 iop] w (Ret (.bool b) w))) := by
    rcases (show m.code.pos < 0 ∨ 0 ≤ m.code.pos by omega) with h0 | h0
    · exact .inl h0
    rcases (show m.code.pos < (m.mem.length : Int) ∨ (m.mem.length : Int) ≤ m.code.pos by omega) with h1 | h1
    · obtain ⟨k, hk⟩ : ∃ k : Nat, m.code.pos = k := ⟨m.code.pos.toNat, by omega⟩
      obtain ⟨v, hv⟩ : ∃ v, m.mem[k]? = some v := ⟨_, List.getElem?_eq_getElem (by omega)⟩
      obtain ⟨be, oe, hA, hq⟩ := mem_cells hLm hv; have RD := fun w h => r_InstRead v.n w h (hwf.mem k v hv).n
      obtain ⟨⟨⟨iop, ia, ib, ic⟩, ie⟩, hr⟩ : ∃ q, readF v.n = q := ⟨_, rfl⟩
      rw [hr] at RD
      by_cases he : ie = 0
      · exact .inr (.inr (.inr ⟨_, k, v, be, oe, iop, ia, ib, ic, ie, hk, by omega, by omega, hA, hq, RD, he, fun w h => r_Has_I _ _ xs iop w hx h⟩))
      · exact .inr (.inr (.inl ⟨k, v, be, oe, iop, ia, ib, ic, ie, hk, by omega, by omega, hA, hq, RD, by simpa using he⟩))
    · exact .inr (.inl ⟨h0, h1⟩)
  have HX := Lib.hid hLx; have HM := Lib.hid hm; have HZ := Lib.hid hm.size; have HE := Lib.hid hE; have PK := Lib.hid (fun w hE => (by have h := r_InstPack ⟨1, 1, 0, 6⟩ w hE; rw [small_pack] at h; exact h : Calls Tryz.prog 35 #[.agg #[.int .i64 (Inst.mk 1 1 0 6).op, .int .i64 (Inst.mk 1 1 0 6).a, .int .i64 (Inst.mk 1 1 0 6).b, .int .i64 (Inst.mk 1 1 0 6).c]] w (Ret (.tuple #[.int .i64 4206625, .int .i64 0]) w))); have h0 := Lib.hid (fun W hM hE => c_step_Step mc m W hM hE); have h2 := Lib.hid (fun W hM hE => r_Step mc m hwf W hM hE); have hl := Lib.hid (stepF_lens m); clear hwf hm hE hLm hLs hLo hreg hLx p56 p57 p58 p60 p62 p63
  generalize stepF m = r at h0 h2 hl
  obtain ⟨M, er⟩ := r
  rcases hcase with hp | ⟨hp, hp2⟩ | ⟨k, v, be, oe, iop, ia, ib, ic, ie, hk, hk1, hk2, rfl, hq, hrd, he⟩ | ⟨_ | _, k, v, be, oe, iop, ia, ib, ic, ie, hk, hk1, hk2, rfl, hq, hrd, rfl, hha⟩
  all_goals
    (try rw [hk] at p59)
    (try have HQ := Lib.hid hq)
    (try have RD := Lib.hid hrd)
    (try have HA := Lib.hid hha)
    (try (obtain ⟨e0, e1⟩ := hq _ (Below.refl _ w)))
    (try clear hq)
    (try clear hrd)
    (try clear hha)
    have hI := Inv.start w; have cF := hI.facts
    go_enter Tryz.func15, Tryz.ntmps15
    go_wp2_with (first
      | ((first | ((with_reducible refine at_box ?_); first | (refine listI rfl fun K hK => wpI_box _ _ rfl hI rfl fun gx w' hI' hb => hK _ _ ?_; clear hK K; (try replace HM1 := Lib.hid (HM1.out.grow hb)); (try replace HM2 := Lib.hid (HM2.out.grow hb)); (try clear hb); refine am92 ?_; clear hI hI'; (try clear cF); intro hI cF) | (refine listI rfl fun K hK => wpI_box1 _ _ rfl hI rfl rfl fun gx w' hI' hb => hK _ _ ?_; clear hK K; (try replace HM1 := Lib.hid (HM1.out.grow hb)); (try replace HM2 := Lib.hid (HM2.out.grow hb)); (try clear hb); refine am92 ?_; clear hI hI'; (try clear cF); intro hI cF))); (try (clear e0 e1; obtain ⟨e0, e1⟩ := HQ.out _ hI.below))) | ((with_reducible refine at_load ?_); first | refine lm 0 hI ?_ | refine lm 1 hI ?_ | refine lm 2 hI ?_ | refine lm 3 hI ?_ | refine lm 4 hI ?_ | refine lm 5 hI ?_ | refine lm 6 hI ?_)
      | (refine listI rfl fun K hK => wpI_slice1 27 25 _ rfl hI Tryz.underlying27 rfl (size := 7) (by kernel_rfl) rfl fun gl w' hI' hb => hK _ _ ?_; clear hK K; (try replace HM1 := Lib.hid (HM1.out.grow hb)); (try replace HM2 := Lib.hid (HM2.out.grow hb)); (try clear hb); refine am92 ?_; clear hI hI'; (try clear cF); intro hI cF)
      | (go_at_call 35; (with_reducible refine (PK.out _ (HE.out.inv hI)).mono ?_); intro e w' hr; obtain ⟨rfl, hb⟩ := hr; have hI' := hI.on hb; (try replace HM1 := Lib.hid (HM1.out.grow hb)); (try replace HM2 := Lib.hid (HM2.out.grow hb)); (try clear hb); refine am92 ?_; clear hI hI'; (try clear cF); intro hI cF)
      | (go_at_call_of 12 (Value.agg mc); (with_reducible refine (h0.out _ (hI.mach HM.out) (HE.out.inv hI)).mono ?_); rintro e w' ⟨mc1, rfl, hm1, hb⟩; have hI' := hI.on hb; (try replace HM1 := Lib.hid (HM1.out.grow hb)); (try replace HM2 := Lib.hid (HM2.out.grow hb)); (try clear hb); refine am92 ?_; clear hI hI'; (try clear cF); intro hI cF; have HZ1 := Lib.hid hm1.size; have HM1 := Lib.hid hm1; have HOM1 := Lib.hid hm1.one; clear hm1)
      | (go_at_call 12
         first
           | (have hLS := hI.lies1 (enc := encV) (i := 2) (size := 7) rfl ⟨false, 4206625, Key.zero⟩ (fun j hj => by simp [encV, Value.cells, Key.zero]); have hgl := hI.lt (i := 2) rfl rfl)
           | (have hLS := hI.lies1 (enc := encV) (i := 1) (size := 7) rfl ⟨false, 4206625, Key.zero⟩ (fun j hj => by simp [encV, Value.cells, Key.zero]); have hgl := hI.lt (i := 1) rfl rfl)
         refine (c_step_Step _ smallM _ ⟨⟨some ⟨gl, 0, none⟩, none, none, 1, 0, 0, by kernel_rfl, by decide, by decide, by decide, by decide, by decide, by decide, hLS.more (by omega), fun h => absurd rfl h, fun h => absurd rfl h⟩, rfl⟩ (HE.out.inv hI)).mono ?_; rintro e w' ⟨mc0, rfl, hm0, hb⟩; have HZ0 := Lib.hid hm0.size
         have hc8 : mc0[8]? = some (.int .i64 6) := by
           obtain ⟨_, _, _, _, _, _, -, -, -, -, -, -, -, -, -, -, -, -, -, -, -, -, -, hreg⟩ := hm0.cells
           exact hreg 1 _ small_reg 1 (by decide)
         rw [small_two]
         have hI' := hI.on hb; clear hLS; have HO0 := Lib.hid hm0.one; clear hm0
         (try replace HM1 := Lib.hid (HM1.out.grow hb)); (try replace HM2 := Lib.hid (HM2.out.grow hb)); (try clear hb); replace hI := hI'; clear hI'; replace cF := hI.facts; (try simp only [mm, Act.put, Act.eval] at hI cF))
      | (go_at_call_of 13 (Value.agg mc); (with_reducible refine (h2.out _ (hI.mach HM.out) (HE.out.inv hI)).mono ?_); rintro e w' ⟨mc2, rfl, hm2, hb⟩; have hI' := hI.on hb; (try replace HM1 := Lib.hid (HM1.out.grow hb)); (try replace HM2 := Lib.hid (HM2.out.grow hb)); (try clear hb); refine am92 ?_; clear hI hI'; (try clear cF); intro hI cF; have HZ2 := Lib.hid hm2.size; have HM2 := Lib.hid hm2; have HOM2 := Lib.hid hm2.one; clear hm2)
      | (go_at_call 14; (with_reducible refine (r_MachineSame mc1 mc2 M _ HM1.out HM2.out hl.out).mono ?_); intro e w' hr; obtain ⟨rfl, hb⟩ := hr; have hI' := hI.on hb; (try replace HM1 := Lib.hid (HM1.out.grow hb)); (try replace HM2 := Lib.hid (HM2.out.grow hb)); (try clear hb); refine am92 ?_; clear hI hI'; (try clear cF); intro hI cF)
      | ((with_reducible refine at_alloc ?_); first | (refine lv 75 hI Tryz.zeroValue75 fun gx w' hI' hb => ?_; (try replace HM1 := Lib.hid (HM1.out.grow hb)); (try replace HM2 := Lib.hid (HM2.out.grow hb)); (try clear hb); refine am92 ?_; clear hI hI'; (try clear cF); intro hI cF)) | ((with_reducible refine at_alloc ?_); refine lvm hI Tryz.zeroValue31 fun gx w' hI' hb => ?_; (try replace HM1 := Lib.hid (HM1.out.grow hb)); (try replace HM2 := Lib.hid (HM2.out.grow hb)); (try clear hb); refine am92 ?_; clear hI hI'; (try clear cF); intro hI cF) | (go_at_call 33; (with_reducible refine (RD.out _ (HE.out.inv hI)).mono ?_); intro e w' hr; obtain ⟨rfl, hb⟩ := hr; have hI' := hI.on hb; (try replace HM1 := Lib.hid (HM1.out.grow hb)); (try replace HM2 := Lib.hid (HM2.out.grow hb)); (try clear hb); refine am92 ?_; clear hI hI'; (try clear cF); intro hI cF) | (go_at_call 34; (with_reducible refine (HA.out _ (hI.lies HX.out)).mono ?_); intro e w' hr; obtain ⟨rfl, hb⟩ := hr; have hI' := hI.on hb; (try replace HM1 := Lib.hid (HM1.out.grow hb)); (try replace HM2 := Lib.hid (HM2.out.grow hb)); (try clear hb); refine am92 ?_; clear hI hI'; (try clear cF); intro hI cF)
      | fail)
    go_returns
    exact Ret.bool (by simp) hI.below
end Go.Proofs.YthmpnnfejghhfaaGreatDoor
