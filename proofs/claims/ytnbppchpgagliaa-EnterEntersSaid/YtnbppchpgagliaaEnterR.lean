/- The contract of the reference's Enter. Conditions: none. -/
import Derived.Test.YtnbppchpgagliaaEnterF
import Derived.Test.YtnbppchpgagliaaStoreV
import Derived.Test.YtnbppchpgagliaaStepCkR
namespace Go.Proofs.Ytnbppchpgagliaa
open Go.RowKit
set_option linter.unusedVariables false
set_option linter.unusedSimpArgs false
set_option maxRecDepth 100000
theorem c60of {w : World} {g : Nat} {t : TypeId} {regs : List Val} {k : Key} {a b c : Value} (h : Box w g t (machL regs k a b c).toArray) (hl : regs.length = 8) : (machL regs k a b c).toArray.size = 64 := by rw [List.size_toArray, machL_length hl]
set_option maxHeartbeats 4000000 in
theorem r_Enter (A E Ap O : Option Addr) (c e np cp o : Nat) (xs : List Val) (es : List Entry) (s : ByteArray) (l : List Int) (w : World) (he : es.length ≤ e) (he' : e ≤ maxLen) (ho : l.length ≤ maxLen)
    (hwf : ∀ (i : Nat) v, xs[i]? = some v → Val.Wf v) (hwe : ∀ (i : Nat) v, es[i]? = some v → Entry.Wf v) (hL : Lies encV 7 w w.heap.size A xs) (hM : Lies encE 11 w w.heap.size E es) (hN : Lies encI 1 w w.heap.size O l) :
    Calls Try.prog 27 #[.agg #[.slice A xs.length c, .slice Ap np cp, .slice E es.length e], .string s, .slice O l.length o] w (RetMach w (enterF xs es s l).1 fun v => .tuple #[v, .int .i64 (enterF xs es s l).2]) := by
  have HL := Lib.hid hL
  have HM := Lib.hid hM
  have HN := Lib.hid hN
  have HW := Lib.hid hwf
  have HWE := Lib.hid hwe
  clear hL hM hN hwf hwe
  cases h0 : (imgE xs es != 0)
  · by_cases h1 : 7 < l.length
    · rw [enterF_large h0 h1]
      go_enter Try.func27, Try.ntmps27
      go_wp2_with (first | (go_at_call 30; (with_reducible refine (r_EnterCheck A E Ap c e np cp xs es _ HW.out HWE.out ((HL.out.below (by (repeat' (first | (with_reducible exact Below.refl _ _) | (with_reducible assumption) | (with_reducible refine Below.alloc ?_ ?_ _) | (with_reducible refine Below.drew ?_) | (with_reducible refine Below.setCell ?_ ?_ _) | (refine Below.trans ?_ (Below.mono (by with_reducible assumption) ?_)) | go_size)))).more (by ((try simp only [World.size_alloc, World.size_setCell, World.size_drew]) <;> omega))) ((HM.out.below (by (repeat' (first | (with_reducible exact Below.refl _ _) | (with_reducible assumption) | (with_reducible refine Below.alloc ?_ ?_ _) | (with_reducible refine Below.drew ?_) | (with_reducible refine Below.setCell ?_ ?_ _) | (refine Below.trans ?_ (Below.mono (by with_reducible assumption) ?_)) | go_size)))).more (by ((try simp only [World.size_alloc, World.size_setCell, World.size_drew]) <;> omega)))).mono ?_); intro e w1 hr; obtain ⟨rfl, hb, hc, hf, hz⟩ := hr.use; clear hr hc hf; have hK := KeptB.on (imgB _ w) hb; clear hb hz; have HK := Lib.hid hK; have hbw := hK.below; have HB0 := Lib.hid (hK.box 0 _ rfl); have c0 := fun o => HB0.out.cell o; have f0 := fun o => HB0.out.frozen o; have z0 := HB0.out.lt; (try dsimp only at c0); have HB1 := Lib.hid (hK.box 1 _ rfl); have c1 := fun o => HB1.out.cell o; have f1 := fun o => HB1.out.frozen o; have z1 := HB1.out.lt; (try dsimp only at c1); (try simp only [Nat.add_zero] at c0 f0 z0); clear hK) | (refine wpList_store_box rfl 45 (.tmp 6) (.tmp 23) rfl (HK.out.box 1 _ rfl) rfl rfl (by kernel_rfl) rfl (by simp [Value.oneCell']) ?_; intro w2 hbw2 hgw2 hzw2) | fail)
      have hbw3 : Box w2 (w.heap.size + 1) 45 zeroM := hbw2
      ((try simp only [Exit.inBlock, Exit.then]); refine bodyPost_ret (results_ct rfl rfl hbw3 Try.underlying45 rfl (by kernel_rfl)) rfl ?_)
      exact ⟨_, rfl, MachV.zero w2 _, hbw.grown hgw2 (by omega) (fun k hk => by cases hk; omega)⟩
    · have h1' : l.length ≤ 7 := by omega
      go_enter Try.func27, Try.ntmps27
      have hx1 := Lib.hid (imgE_max h0)
      have hx2 := Lib.hid (imgE_big h0)
      go_wp2_with (first | (go_at_call 30; (with_reducible refine (r_EnterCheck A E Ap c e np cp xs es _ HW.out HWE.out ((HL.out.below (by (repeat' (first | (with_reducible exact Below.refl _ _) | (with_reducible assumption) | (with_reducible refine Below.alloc ?_ ?_ _) | (with_reducible refine Below.drew ?_) | (with_reducible refine Below.setCell ?_ ?_ _) | (refine Below.trans ?_ (Below.mono (by with_reducible assumption) ?_)) | go_size)))).more (by ((try simp only [World.size_alloc, World.size_setCell, World.size_drew]) <;> omega))) ((HM.out.below (by (repeat' (first | (with_reducible exact Below.refl _ _) | (with_reducible assumption) | (with_reducible refine Below.alloc ?_ ?_ _) | (with_reducible refine Below.drew ?_) | (with_reducible refine Below.setCell ?_ ?_ _) | (refine Below.trans ?_ (Below.mono (by with_reducible assumption) ?_)) | go_size)))).more (by ((try simp only [World.size_alloc, World.size_setCell, World.size_drew]) <;> omega)))).mono ?_); intro e w1 hr; obtain ⟨rfl, hb, hc, hf, hz⟩ := hr.use; clear hr hc hf; have hK := KeptB.on (imgB _ w) hb; clear hb hz; have HK := Lib.hid hK; have hbw := hK.below; have HB0 := Lib.hid (hK.box 0 _ rfl); have c0 := fun o => HB0.out.cell o; have f0 := fun o => HB0.out.frozen o; have z0 := HB0.out.lt; (try dsimp only at c0); have HB1 := Lib.hid (hK.box 1 _ rfl); have c1 := fun o => HB1.out.cell o; have f1 := fun o => HB1.out.frozen o; have z1 := HB1.out.lt; (try dsimp only at c1); (try simp only [Nat.add_zero] at c0 f0 z0); clear hK) | fail)
      have hz2 : w.heap.size + 2 ≤ w1.heap.size := (by have := HK.out.size; simp only [List.length_cons, List.length_nil] at this; omega)
      have HB := Lib.hid (HK.out)
      have HB3 := Lib.hid (show Box (w1.alloc (.cells zeroM 45)) w1.heap.size 45 zeroM from Box.new _ _ _ rfl)
      have E0 := Lib.hid (show firstE numE l = firstFrom numE l 0 from rfl)
      clear hbw HB0 c0 f0 z0 HB1 c1 f1 z1 HK
      go_loopw [10, 11, 26] (fun _ _ v wr => ∃ k : Nat, v = .int .i64 k ∧ k ≤ l.length ∧ firstE numE l = firstFrom numE l k ∧ KeptB w [(#[.slice A xs.length c, .slice Ap np cp, .slice E es.length e], 26), (zeroM, 45)] wr ∧ Box wr w1.heap.size 45 (machL (argRegs (l.take k)) Key.zero nilS nilS nilS).toArray) (fun _ _ v _ => (l.length - intOf v).toNat)
      case atStart => exact ⟨0, rfl, by omega, E0.out, HB.out.alloc _, HB3.out⟩
      case round =>
        obtain ⟨k, rfl, hk, he2, hkb, hbox⟩ := hrel
        have HF := Lib.hid he2
        have HBB := Lib.hid hkb
        have HBX := Lib.hid hbox
        have hbw := hkb.below
        have hz := hbox.lt
        clear he2 hkb hbox E0 HB HB3
        rcases Nat.lt_or_ge k l.length with hlt | hge
        · have hk8 : k < 8 := by omega
          have hlen8 : (argRegs (l.take k)).length = 8 := argRegs_len (by rw [List.length_take]; omega)
          obtain ⟨b, oo, n, hOA, hb, hp, q0⟩ := (HN.out.below hbw).cellsI hlt
          subst hOA
          have HP := Lib.hid hp
          have HLEN := Lib.hid hlen8
          have HI := inR_wr n
          clear hp hlen8
          cases h3 : (n != Go.Proofs.Ytnbppchpgagliaa.wr n)
          · have H := Lib.hid (HF.out.trans (firstFrom_ok HP.out (numE_ok h3)))
            rw [h3] at HI
            go_wp2_with (first | (go_at_call 54; (with_reducible refine (r_IsNumber _ _).mono ?_); rintro e w1 ⟨rfl, rfl⟩) | (refine wpList_store_part rfl _ _ _ rfl HBX.out rfl rfl (machL_putReg (i := k) HLEN.out hk8 ⟨false, n, Key.zero⟩) (show k * 7 + 7 ≤ (machL _ _ _ _ _).toArray.size by rw [List.size_toArray, machL_length HLEN.out]; omega) (by kernel_rfl) (by simp [Value.oneCell']) ?_; intro w4 hbw4 hgw4 hzw4) | fail)
            go_roundw
            case rel =>
              rw [argRegs_step HP.out hk8] at hbw4
              exact ⟨k + 1, by go_num, by omega, H.out, HBB.out.grown' hgw4 (fun k hk => by cases hk; exact hz2), hbw4⟩
            case measure => simp [intOf]; omega
          · have H := Lib.hid (show (firstE numE l != 0) = true by rw [HF.out.trans (firstFrom_no HP.out (numE_no h3))]; exact numE_no h3)
            rw [h3] at HI
            go_wp2_with (first | (go_at_call 54; (with_reducible refine (r_IsNumber _ _).mono ?_); rintro e w1 ⟨rfl, rfl⟩) | (refine wpList_store_box rfl 45 (.tmp 6) (.tmp 34) rfl (HBB.out.box 1 _ rfl) rfl rfl (by kernel_rfl) rfl (by simp [Value.oneCell']) ?_; intro w4 hbw4 hgw4 hzw4) | fail)
            have hbw5 : Box w4 (w.heap.size + 1) 45 zeroM := hbw4
            ((try simp only [Exit.inBlock, Exit.then]); refine bodyPost_ret (results_ct rfl rfl hbw5 Try.underlying45 rfl (by kernel_rfl)) rfl ?_)
            rw [enterF_num h0 h1 H.out]
            exact ⟨_, rfl, MachV.zero w4 _, hbw.grown hgw4 (by omega) (fun k hk => by cases hk; omega)⟩
        · have H2 := Lib.hid (show (firstE numE l != 0) = false by rw [HF.out.trans (firstFrom_end hge)]; rfl)
          have hk' : k = l.length := by omega
          have HBY := Lib.hid (show Box wr w1.heap.size 45 (machL (argRegs l) Key.zero nilS nilS nilS).toArray from by have := HBX.out; rwa [hk', List.take_length] at this)
          cases h3 : (findE es s).2
          · have HE := Lib.hid (enterF_none (s := s) h0 h1 H2.out h3)
            have hK := HBB.out
            (skip; have HK := Lib.hid hK; have hbw := hK.below; have HB0 := Lib.hid (hK.box 0 _ rfl); have c0 := fun o => HB0.out.cell o; have f0 := fun o => HB0.out.frozen o; have z0 := HB0.out.lt; (try dsimp only at c0); have HB1 := Lib.hid (hK.box 1 _ rfl); have c1 := fun o => HB1.out.cell o; have f1 := fun o => HB1.out.frozen o; have z1 := HB1.out.lt; (try dsimp only at c1); (try simp only [Nat.add_zero] at c0 f0 z0); clear hK)
            go_wp2_with (first | (go_at_call 16; (with_reducible refine (r_Find E e _ _ es s _ he he' ((HM.out.below HBB.out.below).more HBB.out.below.size)).mono ?_); intro e w4 hr; obtain ⟨rfl, hb, hc, hf, hz⟩ := hr.use; clear hr hc hf; have hK := KeptB.on (HBB.out) hb; clear hb hz; have HK := Lib.hid hK; have hbw := hK.below; have HB0 := Lib.hid (hK.box 0 _ rfl); have c0 := fun o => HB0.out.cell o; have f0 := fun o => HB0.out.frozen o; have z0 := HB0.out.lt; (try dsimp only at c0); have HB1 := Lib.hid (hK.box 1 _ rfl); have c1 := fun o => HB1.out.cell o; have f1 := fun o => HB1.out.frozen o; have z1 := HB1.out.lt; (try dsimp only at c1); (try simp only [Nat.add_zero] at c0 f0 z0); clear hK) | (refine wpList_store_box rfl 45 (.tmp 6) (.tmp 49) rfl ((HK.out.alloc _).box 1 _ rfl) rfl rfl (by kernel_rfl) rfl (by simp [Value.oneCell']) ?_; intro w5 hbw5 hgw5 hzw5) | fail)
            have hbw6 : Box w5 (w.heap.size + 1) 45 zeroM := hbw5
            ((try simp only [Exit.inBlock, Exit.then]); refine bodyPost_ret (results_ct rfl rfl hbw6 Try.underlying45 rfl (by kernel_rfl)) rfl ?_)
            rw [HE.out]
            exact ⟨_, rfl, MachV.zero w5 _, (hbw.alloc (by omega) _).grown hgw5 (by ((try simp only [World.size_alloc, World.size_setCell, World.size_drew]) <;> omega)) (fun k hk => by cases hk; omega)⟩
          · have HE := Lib.hid (enterF_is (s := s) h0 h1 H2.out h3)
            have hK := HBB.out
            (skip; have HK := Lib.hid hK; have hbw := hK.below; have HB0 := Lib.hid (hK.box 0 _ rfl); have c0 := fun o => HB0.out.cell o; have f0 := fun o => HB0.out.frozen o; have z0 := HB0.out.lt; (try dsimp only at c0); have HB1 := Lib.hid (hK.box 1 _ rfl); have c1 := fun o => HB1.out.cell o; have f1 := fun o => HB1.out.frozen o; have z1 := HB1.out.lt; (try dsimp only at c1); (try simp only [Nat.add_zero] at c0 f0 z0); clear hK)
            have HR8 := Lib.hid (argRegs_len (l := l) (by omega))
            have HR7 := Lib.hid (show ((argRegs l).set 7 ⟨true, 0, (findE es s).1.data⟩).length = 8 by rw [List.length_set]; exact HR8.out)
            have HR9 := Lib.hid (show ((argRegs l).set 7 ⟨true, 0, { (findE es s).1.data with tag := 0 }⟩).length = 8 by rw [List.length_set]; exact HR8.out)
            have HS7 := Lib.hid (show (machL ((argRegs l).set 7 ⟨true, 0, (findE es s).1.data⟩) { (findE es s).1.code with tag := 0 } nilS nilS nilS).set 55 (.int .i64 0) = machL ((argRegs l).set 7 ⟨true, 0, { (findE es s).1.data with tag := 0 }⟩) { (findE es s).1.code with tag := 0 } nilS nilS nilS from by
              have h := machL_setReg (k := { (findE es s).1.code with tag := 0 }) (a := nilS) (b := nilS) (c := nilS) HR7.out (i := 7) (j := 6) (x := ⟨true, 0, (findE es s).1.data⟩) (y := ⟨true, 0, { (findE es s).1.data with tag := 0 }⟩) (u := .int .i64 0) (List.getElem?_set_self (by rw [HR8.out]; decide)) (by decide) rfl
              rw [List.set_set] at h
              exact h)
            clear HK HB0 HB1 c1 f0 f1 z1
            go_wp2_with (first
              | ((go_at_call 16; (with_reducible refine (r_Find E e _ _ es s _ he he' ((HM.out.below HBB.out.below).more HBB.out.below.size)).mono ?_); intro e w4 hr; obtain ⟨rfl, hb, hc, hf, hz⟩ := hr.use; (try simp only [World.size_alloc, World.size_setCell, World.size_drew] at hz); clear hr); have HY := Lib.hid (HBY.out.on hb); have HK4 := Lib.hid (HBB.out.on hb); clear hb; have hz4 := HY.out.lt)
              | (refine wpList_store_part rfl 28 (.tmp 52) (.tmp 51) rfl (HY.out.alloc _) rfl rfl (machL_putCode (k' := (findE es s).1.code) HR8.out) (show 56 + 5 ≤ (machL _ _ _ _ _).toArray.size by rw [List.size_toArray, machL_length HR8.out]; decide) (by kernel_rfl) (by simp [Value.oneCell']) ?_; intro w5 hbw5 hgw5 hzw5; rw [World.size_alloc] at hzw5; have HK5 := Lib.hid ((HK4.out.alloc (.cells #[.string (findE es s).1.name, .int .i64 (findE es s).1.code.perm, .int .i64 (findE es s).1.code.base, .int .i64 (findE es s).1.code.len, .int .i64 (findE es s).1.code.pos, .int .i64 (findE es s).1.code.tag, .int .i64 (findE es s).1.data.perm, .int .i64 (findE es s).1.data.base, .int .i64 (findE es s).1.data.len, .int .i64 (findE es s).1.data.pos, .int .i64 (findE es s).1.data.tag] 30)).grown' hgw5 (fun k hk => by cases hk; exact hz2)); have HC5 := Lib.hid (((Box.new w4 30 #[.string (findE es s).1.name, .int .i64 (findE es s).1.code.perm, .int .i64 (findE es s).1.code.base, .int .i64 (findE es s).1.code.len, .int .i64 (findE es s).1.code.pos, .int .i64 (findE es s).1.code.tag, .int .i64 (findE es s).1.data.perm, .int .i64 (findE es s).1.data.base, .int .i64 (findE es s).1.data.len, .int .i64 (findE es s).1.data.pos, .int .i64 (findE es s).1.data.tag] rfl).grown hgw5 (fun h => by injection h with h; omega)) : Box w5 w4.heap.size 30 #[.string (findE es s).1.name, .int .i64 (findE es s).1.code.perm, .int .i64 (findE es s).1.code.base, .int .i64 (findE es s).1.code.len, .int .i64 (findE es s).1.code.pos, .int .i64 (findE es s).1.code.tag, .int .i64 (findE es s).1.data.perm, .int .i64 (findE es s).1.data.base, .int .i64 (findE es s).1.data.len, .int .i64 (findE es s).1.data.pos, .int .i64 (findE es s).1.data.tag]); clear hgw5)
              | (refine wpList_store_val rfl 3 (.tmp 54) (.const (.int .i64 0)) rfl hbw5 rfl rfl rfl (machL_tag HR8.out 0) (show 60 < (machL _ _ _ _ _).toArray.size by rw [List.size_toArray, machL_length HR8.out]; decide) (by kernel_rfl) ?_; intro w6 hbw6 hgw6 hzw6; have HK6 := Lib.hid (HK5.out.grown' hgw6 (fun k hk => by cases hk; exact hz2)); have ce := (HC5.out.grown hgw6 (fun h => by injection h with h; omega)).cell; clear hgw6)
              | (refine wpList_store_part rfl 35 (.tmp 59) (.tmp 57) rfl hbw6 rfl rfl (machL_putReg (i := 7) HR8.out (by decide) ⟨true, 0, (findE es s).1.data⟩) (show 49 + 7 ≤ (machL _ _ _ _ _).toArray.size by rw [List.size_toArray, machL_length HR8.out]; decide) (by kernel_rfl) (by simp [Value.oneCell']) ?_; intro w7 hbw7 hgw7 hzw7; have HK7 := Lib.hid (HK6.out.grown' hgw7 (fun k hk => by cases hk; exact hz2)); clear hgw7)
              | (refine wpList_store_val rfl 3 (.tmp 63) (.const (.int .i64 0)) rfl hbw7 rfl rfl rfl HS7.out (show 55 < (machL _ _ _ _ _).toArray.size by rw [List.size_toArray, machL_length HR7.out]; decide) (by kernel_rfl) ?_; intro w8 hbw8 hgw8 hzw8; have HK8 := Lib.hid (HK7.out.grown' hgw8 (fun k hk => by cases hk; exact hz2)); have c0 := (HK8.out.box 0 _ rfl).cell; (simp only [Nat.add_zero] at c0); clear hgw8)
              | (go_at_call 57; (with_reducible refine (r_Copy_V A c xs _ hx1.out hx2.out ((HL.out.below HK8.out.below).more HK8.out.below.size)).mono ?_); rintro e w9 ⟨A2, k2, rfl, hO2, hL2, hb2⟩; have HB9 := Lib.hid (Box.on hbw8 hb2); have HK9 := Lib.hid (HK8.out.on hb2); have HO2 := Lib.hid hO2; have hz9 := hb2.size; clear hb2 hL2 hO2)
              | (refine wpList_store_val rfl 22 (.tmp 67) (.tmp 66) rfl HB9.out rfl rfl rfl (machL_mem HR9.out (.slice A2 xs.length k2)) (show 61 < (machL _ _ _ _ _).toArray.size by rw [List.size_toArray, machL_length HR9.out]; decide) (by kernel_rfl) ?_; intro w10 hbw10 hgw10 hzw10; have HK10 := Lib.hid (HK9.out.grown' hgw10 (fun k hk => by cases hk; exact hz2)); have HO10 := Lib.hid (HO2.out.kept hgw10 (.inl fun h => by have := HO2.out.lt _ h; omega)))
              | (refine wpList_load_mach rfl (.tmp 9) rfl hbw10 rfl HR9.out ?_)
              | (refine wpList_store_mach rfl (.tmp 6) (.tmp 68) rfl (HK10.out.box 1 _ rfl) rfl rfl HR9.out zeroM_size rfl rfl rfl ?_; intro w11 hbw11 hgw11 hzw11)
              | fail)
            (try simp only [Exit.inBlock, Exit.then])
            refine bodyPost_ret (results_ct rfl rfl hbw11 Try.underlying45 rfl (info_mach HR9.out)) rfl ?_
            rw [HE.out]
            have hO := (HO10.out.kept hgw11 (.inl fun h => by have := HO10.out.lt _ h; omega))
            exact ⟨_, rfl, ⟨⟨A2, none, none, k2, 0, 0, rfl, hO.cap.1, hO.cap.2, Nat.le_refl _, Nat.zero_le _, Nat.le_refl _, Nat.zero_le _, hO.liesB (fun _ => rfl) rfl, Lies.nil_, Lies.nil_⟩, HR9.out⟩, HK10.out.below.grown hgw11 HK10.out.below.size (fun k hk => by injection hk with hk; omega)⟩
  · rw [enterF_img h0]
    go_enter Try.func27, Try.ntmps27
    go_wp2_with (first | (go_at_call 30; (with_reducible refine (r_EnterCheck A E Ap c e np cp xs es _ HW.out HWE.out ((HL.out.below (by (repeat' (first | (with_reducible exact Below.refl _ _) | (with_reducible assumption) | (with_reducible refine Below.alloc ?_ ?_ _) | (with_reducible refine Below.drew ?_) | (with_reducible refine Below.setCell ?_ ?_ _) | (refine Below.trans ?_ (Below.mono (by with_reducible assumption) ?_)) | go_size)))).more (by ((try simp only [World.size_alloc, World.size_setCell, World.size_drew]) <;> omega))) ((HM.out.below (by (repeat' (first | (with_reducible exact Below.refl _ _) | (with_reducible assumption) | (with_reducible refine Below.alloc ?_ ?_ _) | (with_reducible refine Below.drew ?_) | (with_reducible refine Below.setCell ?_ ?_ _) | (refine Below.trans ?_ (Below.mono (by with_reducible assumption) ?_)) | go_size)))).more (by ((try simp only [World.size_alloc, World.size_setCell, World.size_drew]) <;> omega)))).mono ?_); intro e w1 hr; obtain ⟨rfl, hb, hc, hf, hz⟩ := hr.use; clear hr hc hf; have hK := KeptB.on (imgB _ w) hb; clear hb hz; have HK := Lib.hid hK; have hbw := hK.below; have HB0 := Lib.hid (hK.box 0 _ rfl); have c0 := fun o => HB0.out.cell o; have f0 := fun o => HB0.out.frozen o; have z0 := HB0.out.lt; (try dsimp only at c0); have HB1 := Lib.hid (hK.box 1 _ rfl); have c1 := fun o => HB1.out.cell o; have f1 := fun o => HB1.out.frozen o; have z1 := HB1.out.lt; (try dsimp only at c1); (try simp only [Nat.add_zero] at c0 f0 z0); clear hK) | (refine wpList_store_box rfl 45 (.tmp 6) (.tmp 18) rfl (HK.out.box 1 _ rfl) rfl rfl (by kernel_rfl) rfl (by simp [Value.oneCell']) ?_; intro w2 hbw2 hgw2 hzw2) | fail)
    have hbw3 : Box w2 (w.heap.size + 1) 45 zeroM := hbw2
    ((try simp only [Exit.inBlock, Exit.then]); refine bodyPost_ret (results_ct rfl rfl hbw3 Try.underlying45 rfl (by kernel_rfl)) rfl ?_)
    exact ⟨_, rfl, MachV.zero w2 _, hbw.grown hgw2 (by omega) (fun k hk => by cases hk; omega)⟩
end Go.Proofs.Ytnbppchpgagliaa
