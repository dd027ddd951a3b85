/- What Enter says, as a plain function; the contract of enter.Enter. Conditions: none. -/
import Derived.Test.YtnbppchpgagliaaMBox
import Derived.Test.YtnbppchpgagliaaHeadT
import Derived.Test.YtnbppchpgagliaaMStore
import Derived.Test.YtnbppchpgagliaaEnterCk
import Derived.Test.YtnbppchpgagliaaFind
import Derived.Test.YtnbppchpgagliaaStepCk
import Derived.Test.YtnbppchpgagliaaMemSt
namespace Go.Proofs.Ytnbppchpgagliaa
open Go.RowKit
set_option linter.unusedVariables false
set_option linter.unusedSimpArgs false
set_option maxRecDepth 100000

def Val.nil : Val := ⟨false, 0, Key.zero⟩
/-- registers that hold the numbers l, from 0 on -/
def argRegs (l : List Int) : List Val := l.map (fun n => ⟨false, n, Key.zero⟩) ++ List.replicate (8 - l.length) Val.nil
theorem argRegs_len {l : List Int} (h : l.length ≤ 8) : (argRegs l).length = 8 := by simp [argRegs]; omega
theorem argRegs_step {l : List Int} {k : Nat} {n : Int} (hk : l[k]? = some n) (h8 : k < 8) : (argRegs (l.take k)).set k ⟨false, n, Key.zero⟩ = argRegs (l.take (k + 1)) := by
  have hlt : k < l.length := (List.getElem?_eq_some_iff.1 hk).1
  unfold argRegs
  have hlen : ((l.take k).map (fun n : Int => Val.mk false n Key.zero)).length = k := by simp; omega
  rw [List.set_append_right (h := by omega), hlen, Nat.sub_self, List.take_add_one, hk, show 8 - (l.take k).length = (8 - (k + 1)) + 1 by simp; omega, List.replicate_succ, List.set_cons_zero]
  simp only [Option.toList_some, List.map_append, List.map_cons, List.map_nil, List.append_assoc, List.singleton_append, List.length_append, List.length_take, List.length_cons, List.length_nil, Nat.min_eq_left (Nat.le_of_lt hlt), Nat.zero_add]
theorem argRegs_at {l : List Int} {k : Nat} (hk : k ≤ l.length) (h8 : k < 8) : (argRegs (l.take k))[k]? = some Val.nil := by
  unfold argRegs
  have hlen : ((l.take k).map (fun n : Int => Val.mk false n Key.zero)).length = k := by simp; omega
  rw [List.getElem?_append_right (by omega), hlen, Nat.sub_self, show 8 - (l.take k).length = (8 - (k + 1)) + 1 by simp; omega, List.replicate_succ]
  rfl
/-- Enter: the machine and the number told -/
def enterF (xs : List Val) (es : List Entry) (s : ByteArray) (l : List Int) : Mach × Int :=
  if (imgE xs es != 0) = true then (Mach.zero, imgE xs es) else if 7 < l.length then (Mach.zero, 2) else if (firstE numE l != 0) = true then (Mach.zero, 1)
  else if (findE es s).2 = false then (Mach.zero, 7)
  else (⟨(argRegs l).set 7 ⟨true, 0, { (findE es s).1.data with tag := 0 }⟩, { (findE es s).1.code with tag := 0 }, xs, [], []⟩, 0)
section
variable {xs : List Val} {es : List Entry} {s : ByteArray} {l : List Int}
theorem enterF_img (h : (imgE xs es != 0) = true) : enterF xs es s l = (Mach.zero, imgE xs es) := by unfold enterF; rw [if_pos h]
theorem enterF_large (h : (imgE xs es != 0) = false) (h1 : 7 < l.length) : enterF xs es s l = (Mach.zero, 2) := by unfold enterF; rw [if_neg (by simp [h]), if_pos h1]
theorem enterF_num (h : (imgE xs es != 0) = false) (h1 : ¬ 7 < l.length) (h2 : (firstE numE l != 0) = true) : enterF xs es s l = (Mach.zero, 1) := by unfold enterF; rw [if_neg (by simp [h]), if_neg h1, if_pos h2]
theorem enterF_none (h : (imgE xs es != 0) = false) (h1 : ¬ 7 < l.length) (h2 : (firstE numE l != 0) = false) (h3 : (findE es s).2 = false) : enterF xs es s l = (Mach.zero, 7) := by unfold enterF; rw [if_neg (by simp [h]), if_neg h1, if_neg (by simp [h2]), if_pos h3]
theorem enterF_is (h : (imgE xs es != 0) = false) (h1 : ¬ 7 < l.length) (h2 : (firstE numE l != 0) = false) (h3 : (findE es s).2 = true) :
    enterF xs es s l = (⟨(argRegs l).set 7 ⟨true, 0, { (findE es s).1.data with tag := 0 }⟩, { (findE es s).1.code with tag := 0 }, xs, [], []⟩, 0) := by unfold enterF; rw [if_neg (by simp [h]), if_neg h1, if_neg (by simp [h2]), if_neg (by simp [h3])]
theorem imgE_len (h : (imgE xs es != 0) = false) : xs.length ≤ 400 := by
  cases hm : (memE xs != 0)
  · exact memE_len hm
  · rw [imgE_mem hm, hm] at h; cases h
theorem imgE_max (h : (imgE xs es != 0) = false) : xs.length ≤ maxLen := by have := imgE_len h; unfold maxLen; omega
theorem imgE_big (h : (imgE xs es != 0) = false) : xs.length * 56 ≤ 140737488355328 := by have := imgE_len h; omega
end
def zeroM : Array Value := (machL (List.replicate 8 Val.nil) Key.zero nilS nilS nilS).toArray
theorem zeroM_size : zeroM.size = 64 := by rw [zeroM, List.size_toArray, machL_length rfl]
theorem grown_cell {w w' : World} {row : Option Nat} (hg : w.grownBy w' row) {p : Addr} (hk : p.block < w.heap.size) (hne : some p.block ≠ row) : w'.cell? p = w.cell? p := World.cell?_of_block (w := w) (hg.block _ hk hne)
theorem imgB (ic : Array Value) (w : World) : KeptB w [(ic, 26), (zeroM, 45)] ((w.alloc (.cells ic 26)).alloc (.cells zeroM 45)) :=
  ((KeptB.nil_ (Below.refl _ w)).more (t := 26) (cs := ic) rfl).more (t := 45) (cs := zeroM) (by rw [World.size_alloc]; rfl)
set_option maxHeartbeats 4000000 in
theorem c_enter_Enter (A E Ap O : Option Addr) (c e np cp o : Nat) (xs : List Val) (es : List Entry) (s : ByteArray) (l : List Int) (w : World) (he : es.length ≤ maxLen) (ho : l.length ≤ maxLen) (hL : Lies encV 7 w w.heap.size A xs) (hM : Lies encE 11 w w.heap.size E es) (hN : Lies encI 1 w w.heap.size O l) :
    Calls Try.prog 26 #[.agg #[.slice A xs.length c, .slice Ap np cp, .slice E es.length e], .string s, .slice O l.length o] w (RetMach w (enterF xs es s l).1 fun v => .tuple #[v, .int .i64 (enterF xs es s l).2]) := by
  have HL := Lib.hid hL
  have HM := Lib.hid hM
  have HN := Lib.hid hN
  clear hL hM hN
  cases h0 : (imgE xs es != 0)
  · by_cases h1 : 7 < l.length
    · rw [enterF_large h0 h1]
      go_enter Try.func26, Try.ntmps26
      go_wp2_with (first | (go_at_call 29; (with_reducible refine (c_enter_Check A E Ap c e np cp xs es _ ((HL.out.below (by (repeat' (first | (with_reducible exact Below.refl _ _) | (with_reducible assumption) | (with_reducible refine Below.alloc ?_ ?_ _) | (with_reducible refine Below.drew ?_) | (with_reducible refine Below.setCell ?_ ?_ _) | (refine Below.trans ?_ (Below.mono (by with_reducible assumption) ?_)) | go_size)))).more (by ((try simp only [World.size_alloc, World.size_setCell, World.size_drew]) <;> omega))) ((HM.out.below (by (repeat' (first | (with_reducible exact Below.refl _ _) | (with_reducible assumption) | (with_reducible refine Below.alloc ?_ ?_ _) | (with_reducible refine Below.drew ?_) | (with_reducible refine Below.setCell ?_ ?_ _) | (refine Below.trans ?_ (Below.mono (by with_reducible assumption) ?_)) | go_size)))).more (by ((try simp only [World.size_alloc, World.size_setCell, World.size_drew]) <;> omega)))).mono ?_); intro e w1 hr; obtain ⟨rfl, hb, hc, hf, hz⟩ := hr.use; clear hr hc hf; have hK := KeptB.on (imgB _ w) hb; clear hb hz; have HK := Lib.hid hK; have hbw := hK.below; have HB0 := Lib.hid (hK.box 0 _ rfl); have c0 := fun o => HB0.out.cell o; have f0 := fun o => HB0.out.frozen o; have z0 := HB0.out.lt; (try dsimp only at c0); have HB1 := Lib.hid (hK.box 1 _ rfl); have c1 := fun o => HB1.out.cell o; have f1 := fun o => HB1.out.frozen o; have z1 := HB1.out.lt; (try dsimp only at c1); (try simp only [Nat.add_zero] at c0 f0 z0); clear hK) | (refine wpList_store_box rfl 45 (.tmp 6) (.tmp 23) rfl (HK.out.box 1 _ rfl) rfl rfl (by kernel_rfl) rfl (by simp [Value.oneCell']) ?_; intro w2 hbw2 hgw2 hzw2) | fail)
      have hbw3 : Box w2 (w.heap.size + 1) 45 zeroM := hbw2
      ((try simp only [Exit.inBlock, Exit.then]); refine bodyPost_ret (results_ct rfl rfl hbw3 Try.underlying45 rfl (by kernel_rfl)) rfl ?_)
      exact ⟨_, rfl, MachV.zero w2 _, hbw.grown hgw2 (by omega) (fun k hk => by cases hk; omega)⟩
    · have h1' : l.length ≤ 7 := by omega
      go_enter Try.func26, Try.ntmps26
      have hx1 := Lib.hid (imgE_max h0)
      have hx2 := Lib.hid (imgE_big h0)
      go_wp2_with (first | (go_at_call 29; (with_reducible refine (c_enter_Check A E Ap c e np cp xs es _ ((HL.out.below (by (repeat' (first | (with_reducible exact Below.refl _ _) | (with_reducible assumption) | (with_reducible refine Below.alloc ?_ ?_ _) | (with_reducible refine Below.drew ?_) | (with_reducible refine Below.setCell ?_ ?_ _) | (refine Below.trans ?_ (Below.mono (by with_reducible assumption) ?_)) | go_size)))).more (by ((try simp only [World.size_alloc, World.size_setCell, World.size_drew]) <;> omega))) ((HM.out.below (by (repeat' (first | (with_reducible exact Below.refl _ _) | (with_reducible assumption) | (with_reducible refine Below.alloc ?_ ?_ _) | (with_reducible refine Below.drew ?_) | (with_reducible refine Below.setCell ?_ ?_ _) | (refine Below.trans ?_ (Below.mono (by with_reducible assumption) ?_)) | go_size)))).more (by ((try simp only [World.size_alloc, World.size_setCell, World.size_drew]) <;> omega)))).mono ?_); intro e w1 hr; obtain ⟨rfl, hb, hc, hf, hz⟩ := hr.use; clear hr hc hf; have hK := KeptB.on (imgB _ w) hb; clear hb hz; have HK := Lib.hid hK; have hbw := hK.below; have HB0 := Lib.hid (hK.box 0 _ rfl); have c0 := fun o => HB0.out.cell o; have f0 := fun o => HB0.out.frozen o; have z0 := HB0.out.lt; (try dsimp only at c0); have HB1 := Lib.hid (hK.box 1 _ rfl); have c1 := fun o => HB1.out.cell o; have f1 := fun o => HB1.out.frozen o; have z1 := HB1.out.lt; (try dsimp only at c1); (try simp only [Nat.add_zero] at c0 f0 z0); clear hK) | (go_at_call 55; (with_reducible refine (c_Clone_V A c xs _ hx1.out hx2.out ((HL.out.below hbw).more (by omega))).mono ?_); rintro e w2 ⟨A2, k2, rfl, hO2, hL2, hb2⟩) | (refine wpList_store_box rfl 45 (.tmp 9) (.tmp 27) rfl (Box.new _ _ _ rfl) rfl rfl (by kernel_rfl) rfl (by simp [Value.oneCell']) ?_; intro w3 hbw3 hgw3 hzw3) | fail)
      have hbx : Box w3 w2.heap.size 45 (machL (argRegs (l.take 0)) Key.zero (.slice A2 xs.length k2) nilS nilS).toArray := hbw3
      clear hbw3
      have HB3 := Lib.hid hbx
      have hb3 : Below w2.heap.size w2 w3 := ((Below.refl _ w2).alloc (Nat.le_refl _) _).grown hgw3 (by ((try simp only [World.size_alloc, World.size_setCell, World.size_drew]) <;> omega)) (fun k hk => by cases hk; exact Nat.le_refl _)
      have hz2 : w.heap.size + 2 ≤ w2.heap.size := (by have := hb2.size; have := HK.out.size; simp only [List.length_cons, List.length_nil] at this; omega)
      have hz3 : w2.heap.size < w3.heap.size := (by rw [hzw3, World.size_alloc]; omega)
      clear hgw3 hbx hzw3
      have HL3 := Lib.hid (hL2.below hb3)
      have HB := Lib.hid ((HK.out.on hb2).on hb3)
      have E0 := Lib.hid (show firstE numE l = firstFrom numE l 0 from rfl)
      have HC2 := Lib.hid (hO2.cap)
      have HU2 := Lib.hid (show ∀ b o, A2 = some ⟨b, o, none⟩ → w.heap.size + 2 ≤ b from fun b o hA => by have := (hO2.lt b (by rw [hA]; rfl)).1; have := HK.out.size; simp only [List.length_cons, List.length_nil] at this; omega)
      clear hO2 hL2 hb2 hb3 hbw HB0 c0 f0 z0 HB1 c1 f1 z1 HK
      have HC := Lib.hid (show ∃ cs : List Value, cs = [] from ⟨_, rfl⟩)
      go_loopw [10, 11, 30] (fun _ _ v wr => ∃ k : Nat, v = .int .i64 k ∧ k ≤ l.length ∧ firstE numE l = firstFrom numE l k ∧ KeptB w [(#[.slice A xs.length c, .slice Ap np cp, .slice E es.length e], 26), (zeroM, 45)] wr ∧ Box wr w2.heap.size 45 (machL (argRegs (l.take k)) Key.zero (.slice A2 xs.length k2) nilS nilS).toArray ∧ Lies encV 7 wr w2.heap.size A2 xs) (fun _ _ v _ => (l.length - intOf v).toNat)
      case atStart => exact ⟨0, rfl, by omega, E0.out, HB.out, HB3.out, HL3.out⟩
      case round =>
        obtain ⟨k, rfl, hk, he', hkb, hbox, hl2⟩ := hrel
        have HF := Lib.hid he'
        have HBB := Lib.hid hkb
        have HBX := Lib.hid hbox
        have HL2 := Lib.hid hl2
        have hbw := hkb.below
        have hz := hbox.lt
        clear he' hkb hbox hl2 E0 HB HB3 HL3
        rcases Nat.lt_or_ge k l.length with hlt | hge
        · have hk8 : k < 8 := by omega
          have hlen8 : (argRegs (l.take k)).length = 8 := argRegs_len (by rw [List.length_take]; omega)
          obtain ⟨b, oo, n, hOA, hb, hp, q0⟩ := (HN.out.below hbw).cellsI hlt
          subst hOA
          have HP := Lib.hid hp
          have HLEN := Lib.hid hlen8
          have r0 : wr.cell? ⟨w2.heap.size, k * 7 + 1, none⟩ = some (.int .i64 0) := by
            rw [HBX.out.cell, List.getElem?_toArray, machL_reg hlen8 (argRegs_at (by omega) hk8) (by decide)]; rfl
          have r1 := HBX.out.frozen (k * 7 + 1)
          clear hp hlen8
          cases h3 : (n != Go.Proofs.Ytnbppchpgagliaa.wr n)
          · have H := Lib.hid (HF.out.trans (firstFrom_ok HP.out (numE_ok h3)))
            go_wp2_with (go_at_call 53; (with_reducible refine (c_num_Wrap _ _).mono ?_); rintro e w1 ⟨rfl, rfl⟩)
            go_roundw
            case rel =>
              have hst := HBX.out.setReg HLEN.out (argRegs_at (l := l) (k := k) (by omega) hk8) (j := 1) (y := ⟨false, n, Key.zero⟩) (u := .int .i64 n) (by decide) rfl
              rw [argRegs_step HP.out hk8] at hst
              exact ⟨k + 1, by go_num, by omega, H.out, HBB.out.grown' (grown_setCell _ _ _ _) (fun k hk => by cases hk; exact hz2), hst, HL2.out.below ((Below.refl _ wr).grown (grown_setCell _ _ _ _) (by omega) (fun k hk => by cases hk; exact Nat.le_refl _))⟩
            case measure => simp [intOf]; omega
          · have H := Lib.hid (show (firstE numE l != 0) = true by rw [HF.out.trans (firstFrom_no HP.out (numE_no h3))]; exact numE_no h3)
            go_wp2_with (first | (go_at_call 53; (with_reducible refine (c_num_Wrap _ _).mono ?_); rintro e w1 ⟨rfl, rfl⟩) | (refine wpList_store_box rfl 45 (.tmp 6) (.tmp 39) rfl (HBB.out.box 1 _ rfl) rfl rfl (by kernel_rfl) rfl (by simp [Value.oneCell']) ?_; intro w4 hbw4 hgw4 hzw4) | fail)
            have hbw5 : Box w4 (w.heap.size + 1) 45 zeroM := hbw4
            ((try simp only [Exit.inBlock, Exit.then]); refine bodyPost_ret (results_ct rfl rfl hbw5 Try.underlying45 rfl (by kernel_rfl)) rfl ?_)
            rw [enterF_num h0 h1 H.out]
            exact ⟨_, rfl, MachV.zero w4 _, hbw.grown hgw4 (by omega) (fun k hk => by cases hk; omega)⟩
        · have H2 := Lib.hid (show (firstE numE l != 0) = false by rw [HF.out.trans (firstFrom_end hge)]; rfl)
          have hk' : k = l.length := by omega
          have HBY := Lib.hid (show Box wr w2.heap.size 45 (machL (argRegs l) Key.zero (.slice A2 xs.length k2) nilS nilS).toArray from by have := HBX.out; rwa [hk', List.take_length] at this)
          cases h3 : (findE es s).2
          · have HE := Lib.hid (enterF_none (s := s) h0 h1 H2.out h3)
            have hK := HBB.out
            (skip; have HK := Lib.hid hK; have hbw := hK.below; have HB0 := Lib.hid (hK.box 0 _ rfl); have c0 := fun o => HB0.out.cell o; have f0 := fun o => HB0.out.frozen o; have z0 := HB0.out.lt; (try dsimp only at c0); have HB1 := Lib.hid (hK.box 1 _ rfl); have c1 := fun o => HB1.out.cell o; have f1 := fun o => HB1.out.frozen o; have z1 := HB1.out.lt; (try dsimp only at c1); (try simp only [Nat.add_zero] at c0 f0 z0); clear hK)
            go_wp2_with (first | (go_at_call 15; (with_reducible refine (c_link_Find E e _ _ es s _ he ((HM.out.below HBB.out.below).more HBB.out.below.size)).mono ?_); intro e w4 hr; obtain ⟨rfl, hb, hc, hf, hz⟩ := hr.use; clear hr hc hf; have hK := KeptB.on (HBB.out) hb; clear hb hz; have HK := Lib.hid hK; have hbw := hK.below; have HB0 := Lib.hid (hK.box 0 _ rfl); have c0 := fun o => HB0.out.cell o; have f0 := fun o => HB0.out.frozen o; have z0 := HB0.out.lt; (try dsimp only at c0); have HB1 := Lib.hid (hK.box 1 _ rfl); have c1 := fun o => HB1.out.cell o; have f1 := fun o => HB1.out.frozen o; have z1 := HB1.out.lt; (try dsimp only at c1); (try simp only [Nat.add_zero] at c0 f0 z0); clear hK) | (refine wpList_store_box rfl 45 (.tmp 6) (.tmp 54) rfl ((HK.out.alloc _).box 1 _ rfl) rfl rfl (by kernel_rfl) rfl (by simp [Value.oneCell']) ?_; intro w5 hbw5 hgw5 hzw5) | fail)
            have hbw6 : Box w5 (w.heap.size + 1) 45 zeroM := hbw5
            ((try simp only [Exit.inBlock, Exit.then]); refine bodyPost_ret (results_ct rfl rfl hbw6 Try.underlying45 rfl (by kernel_rfl)) rfl ?_)
            rw [HE.out]
            exact ⟨_, rfl, MachV.zero w5 _, (hbw.alloc (by omega) _).grown hgw5 (by ((try simp only [World.size_alloc, World.size_setCell, World.size_drew]) <;> omega)) (fun k hk => by cases hk; omega)⟩
          · have HE := Lib.hid (enterF_is (s := s) h0 h1 H2.out h3)
            have hK := HBB.out
            (skip; have HK := Lib.hid hK; have hbw := hK.below; have HB0 := Lib.hid (hK.box 0 _ rfl); have c0 := fun o => HB0.out.cell o; have f0 := fun o => HB0.out.frozen o; have z0 := HB0.out.lt; (try dsimp only at c0); have HB1 := Lib.hid (hK.box 1 _ rfl); have c1 := fun o => HB1.out.cell o; have f1 := fun o => HB1.out.frozen o; have z1 := HB1.out.lt; (try dsimp only at c1); (try simp only [Nat.add_zero] at c0 f0 z0); clear hK)
            go_wp2_with (first | ((go_at_call 15; (with_reducible refine (c_link_Find E e _ _ es s _ he ((HM.out.below HBB.out.below).more HBB.out.below.size)).mono ?_); intro e w4 hr; obtain ⟨rfl, hb, hc, hf, hz⟩ := hr.use; (try simp only [World.size_alloc, World.size_setCell, World.size_drew] at hz); clear hr); have HY := Lib.hid (HBY.out.on hb); have HLL := Lib.hid (HL2.out.below (hb.mono (Nat.le_of_lt HBX.out.lt))); have HK4 := Lib.hid (HBB.out.on hb); clear hb) | fail)
            clear HBX HBY HBB HK HB0 HB1 c0 c1 f0 f1 z0 z1 hbw
            have HB5 := Lib.hid ((HY.out.alloc (.cells #[.string (findE es s).1.name, .int .i64 (findE es s).1.code.perm, .int .i64 (findE es s).1.code.base, .int .i64 (findE es s).1.code.len, .int .i64 (findE es s).1.code.pos, .int .i64 0, .int .i64 (findE es s).1.data.perm, .int .i64 (findE es s).1.data.base, .int .i64 (findE es s).1.data.len, .int .i64 (findE es s).1.data.pos, .int .i64 0] 30)))
            have HR8 := Lib.hid (argRegs_len (l := l) (by omega))
            have hc := fun o => (Box.new w4 30 #[.string (findE es s).1.name, .int .i64 (findE es s).1.code.perm, .int .i64 (findE es s).1.code.base, .int .i64 (findE es s).1.code.len, .int .i64 (findE es s).1.code.pos, .int .i64 0, .int .i64 (findE es s).1.data.perm, .int .i64 (findE es s).1.data.base, .int .i64 (findE es s).1.data.len, .int .i64 (findE es s).1.data.pos, .int .i64 0] rfl).cell o
            have hz4 := HY.out.lt
            (refine wp_region_held_drew (S := fun w' => ∀ o, w'.cell? ⟨w4.heap.size, o, none⟩ = #[.string (findE es s).1.name, .int .i64 (findE es s).1.code.perm, .int .i64 (findE es s).1.code.base, .int .i64 (findE es s).1.code.len, .int .i64 (findE es s).1.code.pos, .int .i64 0, .int .i64 (findE es s).1.data.perm, .int .i64 (findE es s).1.data.base, .int .i64 (findE es s).1.data.len, .int .i64 (findE es s).1.data.pos, .int .i64 0][o]?) (by kernel_rfl) ?_ (fun hHeld => ?_))
            exact hc
            (refine takeH (i := 0) rfl (by kernel_rfl) (by kernel_rfl) (by kernel_rfl) (fun _ _ _ _ h => h) (by rfl) (by assumption) ?_; refine' ⟨_, ?_, ?_⟩; rotate_left; (focus (intro w hSw; (try dsimp only at hSw); go_simp; first | done | with_reducible rfl)); (try simp only [Act.put, List.setIfInBounds_toArray, List.set_cons_zero, List.set_cons_succ]))
            (refine takeH (i := 1) rfl (by kernel_rfl) (by kernel_rfl) (by kernel_rfl) (fun _ _ _ _ h => h) (by rfl) (by assumption) ?_; refine' ⟨_, ?_, ?_⟩; rotate_left; (focus (intro w hSw; (try dsimp only at hSw); go_simp; first | done | with_reducible rfl)); (try simp only [Act.put, List.setIfInBounds_toArray, List.set_cons_zero, List.set_cons_succ]))
            (refine takeH (i := 2) rfl (by kernel_rfl) (by kernel_rfl) (by kernel_rfl) (fun _ _ _ _ h => h) (by rfl) (by assumption) ?_; refine' ⟨_, ?_, ?_⟩; rotate_left; (focus (intro w hSw; (try dsimp only at hSw); go_simp; first | done | with_reducible rfl)); (try simp only [Act.put, List.setIfInBounds_toArray, List.set_cons_zero, List.set_cons_succ]))
            (refine takeH (i := 3) rfl (by kernel_rfl) (by kernel_rfl) (by kernel_rfl) (fun _ _ _ _ h => h) (by rfl) (by assumption) ?_; refine' ⟨_, ?_, ?_⟩; rotate_left; (focus (intro w hSw; (try dsimp only at hSw); go_simp; first | done | with_reducible rfl)); (try simp only [Act.put, List.setIfInBounds_toArray, List.set_cons_zero, List.set_cons_succ]))
            (refine takeH (i := 4) rfl (by kernel_rfl) (by kernel_rfl) (by kernel_rfl) (fun _ _ _ _ h => h) (by rfl) (by assumption) ?_; refine' ⟨_, ?_, ?_⟩; rotate_left; (focus (intro w hSw; (try dsimp only at hSw); go_simp; first | done | with_reducible rfl)); (try simp only [Act.put, List.setIfInBounds_toArray, List.set_cons_zero, List.set_cons_succ]))
            (refine takeH (i := 5) rfl (by kernel_rfl) (by kernel_rfl) (by kernel_rfl) (fun _ _ _ _ h => h) (by rfl) (by assumption) ?_; refine' ⟨_, ?_, ?_⟩; rotate_left; (focus (intro w hSw; (try dsimp only at hSw); go_simp; first | done | with_reducible rfl)); (try simp only [Act.put, List.setIfInBounds_toArray, List.set_cons_zero, List.set_cons_succ]))
            (refine takeH (i := 7) rfl (by kernel_rfl) (by kernel_rfl) (by kernel_rfl) (fun _ _ _ _ h => h) (by rfl) (by assumption) ?_; refine' ⟨_, ?_, ?_⟩; rotate_left; (focus (intro w hSw; (try dsimp only at hSw); go_simp; first | done | with_reducible rfl)); (try simp only [Act.put, List.setIfInBounds_toArray, List.set_cons_zero, List.set_cons_succ]))
            refine oneH (i := 6) (by kernel_rfl) rfl (fun K hK => ?_)
            refine step_store_part rfl _ _ _ rfl HB5.out.drew rfl rfl (machL_putCode (k' := { (findE es s).1.code with tag := 0 }) HR8.out) (show 56 + 5 ≤ (machL _ _ _ _ _).toArray.size by rw [List.size_toArray, machL_length HR8.out]; decide) (by kernel_rfl) (by simp [Value.oneCell']) ?_
            intro w6 hb6 hg6 hz6
            have hS6 : ∀ o, w6.cell? ⟨w4.heap.size, o, none⟩ = #[.string (findE es s).1.name, .int .i64 (findE es s).1.code.perm, .int .i64 (findE es s).1.code.base, .int .i64 (findE es s).1.code.len, .int .i64 (findE es s).1.code.pos, .int .i64 0, .int .i64 (findE es s).1.data.perm, .int .i64 (findE es s).1.data.base, .int .i64 (findE es s).1.data.len, .int .i64 (findE es s).1.data.pos, .int .i64 0][o]? := fun o => (grown_cell hg6 (p := ⟨w4.heap.size, o, none⟩) (show w4.heap.size < _ by ((try simp only [World.size_alloc, World.size_setCell, World.size_drew]) <;> omega)) (fun h => by injection h with h; dsimp only at h; omega)).trans (hc o)
            have HB6 := Lib.hid hb6
            clear hb6
            refine hK.out _ _ hS6 (fun hHeld => ?_)
            clear hK K
            simp only [Act.put, List.setIfInBounds_toArray, List.set_cons_zero, List.set_cons_succ]
            (refine takeH (i := 8) rfl (by kernel_rfl) (by kernel_rfl) (by kernel_rfl) (fun _ _ _ _ h => h) (by rfl) (by assumption) ?_; refine' ⟨_, ?_, ?_⟩; rotate_left; (focus (intro w hSw; (try dsimp only at hSw); go_simp; first | done | with_reducible rfl)); (try simp only [Act.put, List.setIfInBounds_toArray, List.set_cons_zero, List.set_cons_succ]))
            refine oneH (i := 9) (by kernel_rfl) rfl (fun K hK => ?_)
            refine step_store_part rfl _ _ _ rfl HB6.out rfl rfl (machL_putReg (i := 7) HR8.out (by decide) ⟨true, 0, { (findE es s).1.data with tag := 0 }⟩) (show 49 + 7 ≤ (machL _ _ _ _ _).toArray.size by rw [List.size_toArray, machL_length HR8.out]; decide) (by kernel_rfl) (by simp [Value.oneCell']) ?_
            intro w7 hb7 hg7 hz7
            have hS7 : ∀ o, w7.cell? ⟨w4.heap.size, o, none⟩ = #[.string (findE es s).1.name, .int .i64 (findE es s).1.code.perm, .int .i64 (findE es s).1.code.base, .int .i64 (findE es s).1.code.len, .int .i64 (findE es s).1.code.pos, .int .i64 0, .int .i64 (findE es s).1.data.perm, .int .i64 (findE es s).1.data.base, .int .i64 (findE es s).1.data.len, .int .i64 (findE es s).1.data.pos, .int .i64 0][o]? := fun o => (grown_cell hg7 (p := ⟨w4.heap.size, o, none⟩) (show w4.heap.size < _ by rw [hz6]; ((try simp only [World.size_alloc, World.size_setCell, World.size_drew]) <;> omega)) (fun h => by injection h with h; dsimp only at h; omega)).trans (hS6 o)
            have HB7 := Lib.hid hb7
            clear hb7
            refine hK.out _ _ hS7 (fun hHeld => ?_)
            clear hK K
            refine wpAnyH_done (by kernel_rfl) ?_ _
            simp only [Act.put, List.setIfInBounds_toArray, List.set_cons_zero, List.set_cons_succ]
            have HRB := Lib.hid (((HK4.out.alloc (.cells #[.string (findE es s).1.name, .int .i64 (findE es s).1.code.perm, .int .i64 (findE es s).1.code.base, .int .i64 (findE es s).1.code.len, .int .i64 (findE es s).1.code.pos, .int .i64 0, .int .i64 (findE es s).1.data.perm, .int .i64 (findE es s).1.data.base, .int .i64 (findE es s).1.data.len, .int .i64 (findE es s).1.data.pos, .int .i64 0] 30)).drew.grown' hg6 (fun k hk => by cases hk; exact hz2)).grown' hg7 (fun k hk => by cases hk; exact hz2))
            have HLQ := Lib.hid ((HLL.out.below (w' := w7) (((((Below.refl _ w4).alloc (Nat.le_of_lt hz4) _).drew).grown hg6 (by ((try simp only [World.size_alloc, World.size_setCell, World.size_drew]) <;> omega)) (fun k hk => by cases hk; exact Nat.le_refl _)).grown hg7 (by rw [hz6]; ((try simp only [World.size_alloc, World.size_setCell, World.size_drew]) <;> omega)) (fun k hk => by cases hk; exact Nat.le_refl _))))
            have hR8' : ((argRegs l).set 7 ⟨true, 0, { (findE es s).1.data with tag := 0 }⟩).length = 8 := by rw [List.length_set]; exact HR8.out
            have HR9 := Lib.hid hR8'
            clear hR8' hg6 hg7 hS6 hS7 hHeld HB6 HB5 HK4 HLL hc
            go_wp2_with (first | (refine wpList_load_mach rfl (.tmp 9) rfl HB7.out rfl HR9.out ?_) | (refine wpList_store_mach rfl (.tmp 6) (.tmp 67) rfl (HRB.out.box 1 _ rfl) rfl rfl HR9.out zeroM_size rfl rfl rfl ?_; intro w8 hbw8 hgw8 hzw8) | fail)
            (try simp only [Exit.inBlock, Exit.then])
            refine bodyPost_ret (results_ct rfl rfl hbw8 Try.underlying45 rfl (info_mach HR9.out)) rfl ?_
            rw [HE.out]
            exact ⟨_, rfl, ⟨⟨A2, none, none, k2, 0, 0, rfl, HC2.out.1, HC2.out.2, Nat.le_refl _, Nat.zero_le _, Nat.le_refl _, Nat.zero_le _, (HLQ.out.off hgw8 (by have := HB7.out.lt; omega) (fun b o hA => by have := HU2.out b o hA; omega)).more (by have := HB7.out.lt; omega), Lies.nil_, Lies.nil_⟩, HR9.out⟩, HRB.out.below.grown hgw8 HRB.out.below.size (fun k hk => by injection hk with hk; omega)⟩
  · rw [enterF_img h0]
    go_enter Try.func26, Try.ntmps26
    go_wp2_with (first | (go_at_call 29; (with_reducible refine (c_enter_Check A E Ap c e np cp xs es _ ((HL.out.below (by (repeat' (first | (with_reducible exact Below.refl _ _) | (with_reducible assumption) | (with_reducible refine Below.alloc ?_ ?_ _) | (with_reducible refine Below.drew ?_) | (with_reducible refine Below.setCell ?_ ?_ _) | (refine Below.trans ?_ (Below.mono (by with_reducible assumption) ?_)) | go_size)))).more (by ((try simp only [World.size_alloc, World.size_setCell, World.size_drew]) <;> omega))) ((HM.out.below (by (repeat' (first | (with_reducible exact Below.refl _ _) | (with_reducible assumption) | (with_reducible refine Below.alloc ?_ ?_ _) | (with_reducible refine Below.drew ?_) | (with_reducible refine Below.setCell ?_ ?_ _) | (refine Below.trans ?_ (Below.mono (by with_reducible assumption) ?_)) | go_size)))).more (by ((try simp only [World.size_alloc, World.size_setCell, World.size_drew]) <;> omega)))).mono ?_); intro e w1 hr; obtain ⟨rfl, hb, hc, hf, hz⟩ := hr.use; clear hr hc hf; have hK := KeptB.on (imgB _ w) hb; clear hb hz; have HK := Lib.hid hK; have hbw := hK.below; have HB0 := Lib.hid (hK.box 0 _ rfl); have c0 := fun o => HB0.out.cell o; have f0 := fun o => HB0.out.frozen o; have z0 := HB0.out.lt; (try dsimp only at c0); have HB1 := Lib.hid (hK.box 1 _ rfl); have c1 := fun o => HB1.out.cell o; have f1 := fun o => HB1.out.frozen o; have z1 := HB1.out.lt; (try dsimp only at c1); (try simp only [Nat.add_zero] at c0 f0 z0); clear hK) | (refine wpList_store_box rfl 45 (.tmp 6) (.tmp 18) rfl (HK.out.box 1 _ rfl) rfl rfl (by kernel_rfl) rfl (by simp [Value.oneCell']) ?_; intro w2 hbw2 hgw2 hzw2) | fail)
    have hbw3 : Box w2 (w.heap.size + 1) 45 zeroM := hbw2
    ((try simp only [Exit.inBlock, Exit.then]); refine bodyPost_ret (results_ct rfl rfl hbw3 Try.underlying45 rfl (by kernel_rfl)) rfl ?_)
    exact ⟨_, rfl, MachV.zero w2 _, hbw.grown hgw2 (by omega) (fun k hk => by cases hk; omega)⟩
end Go.Proofs.Ytnbppchpgagliaa
