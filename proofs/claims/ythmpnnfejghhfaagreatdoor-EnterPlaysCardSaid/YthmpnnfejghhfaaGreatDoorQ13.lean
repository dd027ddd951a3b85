/- The contracts of enter.Check and of its reference: each returns a plain function of an image. Conditions: the numbers are numbers of 64 bits. The contracts of link.Find and of its reference: each returns a plain function of an image. Conditions: none. What Enter says, as a plain function; the contract of enter.Enter. Conditions: none. A job as plain data: what Do hands back. Conditions: none. The contract of the reference's Enter. Conditions: none. -/
import Derived.Test.YthmpnnfejghhfaaGreatDoorP07
import Derived.Test.YthmpnnfejghhfaaGreatDoorQ11
import Derived.Test.YthmpnnfejghhfaaGreatDoorP08
import Derived.LoopN
import Derived.Test.YthmpnnfejghhfaaGreatDoorP05
import Derived.Test.YthmpnnfejghhfaaGreatDoorP13
import Derived.Test.YthmpnnfejghhfaaGreatDoorP12
import Derived.Test.YthmpnnfejghhfaaGreatDoorP11
namespace Go.Proofs.YthmpnnfejghhfaaGreatDoor
open Go.RowKit
set_option linter.unusedVariables false
set_option linter.unusedSimpArgs false
set_option maxRecDepth 100000

def entryE (x : Entry) : Int := if keyOk x.code = true then keyE x.data else 1
def imgE (xs : List Val) (es : List Entry) : Int := if (memE xs != 0) = true then memE xs else if 160 < es.length then 2 else firstE entryE es
theorem entryE_cases (x : Entry) : entryE x = 0 ∨ entryE x = 1 := by
  unfold entryE keyE
  split
  · split <;> simp
  · simp
theorem imgE_mem {xs : List Val} {es : List Entry} (h : (memE xs != 0) = true) : imgE xs es = memE xs := by unfold imgE; rw [if_pos h]
theorem imgE_large {xs : List Val} {es : List Entry} (h : (memE xs != 0) = false) (hl : 160 < es.length) : imgE xs es = 2 := by unfold imgE; rw [if_neg (by simp [h]), if_pos hl]
theorem imgE_all {xs : List Val} {es : List Entry} (h : (memE xs != 0) = false) (hl : ¬ 160 < es.length) : imgE xs es = firstFrom entryE es 0 := by unfold imgE; rw [if_neg (by simp [h]), if_neg hl]; rfl

set_option maxHeartbeats 2000000 in
set_option maxRecDepth 100000 in
theorem c_enter_Check (A E Ap : Option Addr) (c e np cp : Nat) (xs : List Val) (es : List Entry) (w : World) (hL : Lies encV 7 w w.heap.size A xs) (hM : Lies encE 11 w w.heap.size E es) :
    Calls Tryz.prog 70 #[.agg #[.slice A xs.length c, .slice Ap np cp, .slice E es.length e]] w (Ret (.int .i64 (imgE xs es)) w) := by
  cases hm : (memE xs != 0)
  · by_cases hn : 160 < es.length
    · have H := Lib.hid (imgE_large hm hn)
      go_enter Tryz.func70, Tryz.ntmps70
      go_wp2_with (go_at_call 46; (with_reducible refine (c_mem_Check A c xs _ ((hL.below ((Below.refl _ _).alloc (Nat.le_refl _) _)).more (by simp [World.size_alloc]))).mono ?_); intro e w1 hr; obtain ⟨rfl, hb, hc, hf, hz⟩ := hr.use; (try simp only [ws] at hz); clear hr; have c0 := fun o => hc (w.heap.size) o szl; have f0 := fun o => hf (w.heap.size) o szl; have z0 : w.heap.size < w1.heap.size := szl; clear hc hf; simp only [go_sem, World.size_alloc, *] at c0 f0)
      go_returns
      exact Ret.int H.out.symm bel
    · have H0 := Lib.hid (imgE_all hm hn)
      have hn' : es.length ≤ 160 := by omega
      clear hn
      go_enter Tryz.func70, Tryz.ntmps70
      go_wp2_with (go_at_call 46; (with_reducible refine (c_mem_Check A c xs _ ((hL.below ((Below.refl _ _).alloc (Nat.le_refl _) _)).more (by simp [World.size_alloc]))).mono ?_); intro e w1 hr; obtain ⟨rfl, hb, hc, hf, hz⟩ := hr.use; (try simp only [ws] at hz); clear hr; have c0 := fun o => hc (w.heap.size) o szl; have f0 := fun o => hf (w.heap.size) o szl; have z0 : w.heap.size < w1.heap.size := szl; clear hc hf; simp only [go_sem, World.size_alloc, *] at c0 f0)
      go_loopw [5, 7, 8, 22] (fun _ _ _ v wr => ∃ k : Nat, v = .int .i64 k ∧ k ≤ es.length ∧ imgE xs es = firstFrom entryE es k ∧ Below w.heap.size w wr) (fun _ _ _ v _ => (es.length - intOf v).toNat)
      case atStart => exact ⟨0, rfl, by omega, H0.out, bel⟩
      case round =>
        obtain ⟨k, rfl, hk, he, hbw⟩ := hrel
        have hbz := hbw.size
        have HF := Lib.hid he
        clear he
        rcases Nat.lt_or_ge k es.length with hlt | hge
        · obtain ⟨b, o, x, rfl, hb, hx, q0, q1, q2, q3, q4, q5, q6, q7, q8, q9, q10⟩ := (hM.below hbw).cellsE hlt
          have HX := Lib.hid hx
          clear hx
          go_wp2
          refine wp_loop_rounds 3 ?_
          rw [rounds_succ]
          cases h1 : keyOk x.code
          · have h0 := keyE_no h1
            have H := Lib.hid (HF.out.trans (firstFrom_no HX.out (by simp [entryE, h1])))
            have H1 := Lib.hid (show entryE x = 1 by simp [entryE, h1])
            go_wp2_with (go_at_call 45; (with_reducible refine (c_keys_Check x.code _).mono ?_); intro e w2 hr; obtain ⟨rfl, hb, hc, hf, hz⟩ := hr.use; (try simp only [ws] at hz); clear hr)
            go_returns
            exact Ret.int (by rw [H.out, H1.out]) bel
          · have h0 := keyE_ok h1
            have H1 := Lib.hid (show entryE x = keyE x.data by simp [entryE, h1])
            go_wp2_with (go_at_call 45; (with_reducible refine (c_keys_Check x.code _).mono ?_); intro e w2 hr; obtain ⟨rfl, hb, hc, hf, hz⟩ := hr.use; (try simp only [ws] at hz); clear hr; have c0 := fun o => hc (wr.heap.size + 1) o szl; have f0 := fun o => hf (wr.heap.size + 1) o szl; have z0 : wr.heap.size + 1 < w2.heap.size := szl; clear hc hf; simp only [go_sem, World.size_alloc, *] at c0 f0)
            rw [rounds_succ]
            cases h2 : keyOk x.data
            · have k0 := keyE_no h2
              have H := Lib.hid (HF.out.trans (firstFrom_no HX.out (by rw [H1.out, k0]; rfl)))
              go_wp2_with (go_at_call 45; (with_reducible refine (c_keys_Check x.data _).mono ?_); intro e w3 hr; obtain ⟨rfl, hb, hc, hf, hz⟩ := hr.use; (try simp only [ws] at hz); clear hr)
              go_returns
              exact Ret.int (by rw [H.out, H1.out, k0]) bel
            · have k0 := keyE_ok h2
              have H := Lib.hid (HF.out.trans (firstFrom_ok HX.out (by rw [H1.out, k0]; rfl)))
              go_wp2_with (go_at_call 45; (with_reducible refine (c_keys_Check x.data _).mono ?_); intro e w3 hr; obtain ⟨rfl, hb, hc, hf, hz⟩ := hr.use; (try simp only [ws] at hz); clear hr; have c0 := fun o => hc (wr.heap.size + 1) o szl; have f0 := fun o => hf (wr.heap.size + 1) o szl; have z0 : wr.heap.size + 1 < w3.heap.size := szl; clear hc hf; simp only [go_sem, World.size_alloc, *] at c0 f0)
              rw [rounds_succ]
              go_wp2
              go_roundw
              case rel => exact ⟨k + 1, by go_num, by omega, H.out, bel⟩
              case measure => simp [intOf]; omega
        · have H := Lib.hid (HF.out.trans (firstFrom_end hge))
          go_wp2
          go_returns
          exact Ret.int H.out.symm bel
  · have H := Lib.hid (imgE_mem (es := es) hm)
    go_enter Tryz.func70, Tryz.ntmps70
    go_wp2_with (go_at_call 46; (with_reducible refine (c_mem_Check A c xs _ ((hL.below ((Below.refl _ _).alloc (Nat.le_refl _) _)).more (by simp [World.size_alloc]))).mono ?_); intro e w1 hr; obtain ⟨rfl, hb, hc, hf, hz⟩ := hr.use; (try simp only [ws] at hz); clear hr; have c0 := fun o => hc (w.heap.size) o szl; have f0 := fun o => hf (w.heap.size) o szl; have z0 : w.heap.size < w1.heap.size := szl; clear hc hf; simp only [go_sem, World.size_alloc, *] at c0 f0)
    go_returns
    exact Ret.int H.out.symm bel
set_option maxHeartbeats 2000000 in
set_option maxRecDepth 100000 in
theorem r_EnterCheck (A E Ap : Option Addr) (c e np cp : Nat) (xs : List Val) (es : List Entry) (w : World) (hwf : ∀ (i : Nat) v, xs[i]? = some v → Val.Wf v) (hwe : ∀ (i : Nat) v, es[i]? = some v → Entry.Wf v) (hL : Lies encV 7 w w.heap.size A xs) (hM : Lies encE 11 w w.heap.size E es) :
    Calls Tryz.prog 72 #[.agg #[.slice A xs.length c, .slice Ap np cp, .slice E es.length e]] w (Ret (.int .i64 (imgE xs es)) w) := by
  have HW := Lib.hid hwf
  have HWE := Lib.hid hwe
  clear hwf hwe
  cases hm : (memE xs != 0)
  · by_cases hn : 160 < es.length
    · have H := Lib.hid (imgE_large hm hn)
      go_enter Tryz.func72, Tryz.ntmps72
      go_wp2_with (go_at_call 54; (with_reducible refine (r_MemCheck A c xs _ HW.out ((hL.below ((Below.refl _ _).alloc (Nat.le_refl _) _)).more (by simp [World.size_alloc]))).mono ?_); intro e w1 hr; obtain ⟨rfl, hb, hc, hf, hz⟩ := hr.use; (try simp only [ws] at hz); clear hr; have c0 := fun o => hc (w.heap.size) o szl; have f0 := fun o => hf (w.heap.size) o szl; have z0 : w.heap.size < w1.heap.size := szl; clear hc hf; simp only [go_sem, World.size_alloc, *] at c0 f0)
      go_returns
      exact Ret.int H.out.symm bel
    · have H0 := Lib.hid (imgE_all hm hn)
      have hn' : es.length ≤ 160 := by omega
      clear hn
      go_enter Tryz.func72, Tryz.ntmps72
      go_wp2_with (go_at_call 54; (with_reducible refine (r_MemCheck A c xs _ HW.out ((hL.below ((Below.refl _ _).alloc (Nat.le_refl _) _)).more (by simp [World.size_alloc]))).mono ?_); intro e w1 hr; obtain ⟨rfl, hb, hc, hf, hz⟩ := hr.use; (try simp only [ws] at hz); clear hr; have c0 := fun o => hc (w.heap.size) o szl; have f0 := fun o => hf (w.heap.size) o szl; have z0 : w.heap.size < w1.heap.size := szl; clear hc hf; simp only [go_sem, World.size_alloc, *] at c0 f0)
      go_loopw [5, 19] (fun _ v wr => ∃ k : Nat, v = .int .i64 k ∧ k ≤ es.length ∧ imgE xs es = firstFrom entryE es k ∧ Below w.heap.size w wr) (fun _ v _ => (es.length - intOf v).toNat)
      case atStart => exact ⟨0, rfl, by omega, H0.out, bel⟩
      case round =>
        obtain ⟨k, rfl, hk, he, hbw⟩ := hrel
        have hbz := hbw.size
        have HF := Lib.hid he
        clear he
        rcases Nat.lt_or_ge k es.length with hlt | hge
        · obtain ⟨b, o, x, rfl, hb, hx, q0, q1, q2, q3, q4, q5, q6, q7, q8, q9, q10⟩ := (hM.below hbw).cellsE hlt
          have HX := Lib.hid hx
          have HXW := Lib.hid (HWE.out k x hx)
          clear hx
          cases h1 : keyOk x.code
          · have h0 := keyE_no h1
            have H := Lib.hid (HF.out.trans (firstFrom_no HX.out (by simp [entryE, h1])))
            have H1 := Lib.hid (show entryE x = 1 by simp [entryE, h1])
            go_wp2_with (go_at_call 83; (with_reducible refine (r_KeyCheck x.code HXW.out.code _).mono ?_); intro e w2 hr; obtain ⟨rfl, hb, hc, hf, hz⟩ := hr.use; (try simp only [ws] at hz); clear hr; have c0 := fun o => hc (wr.heap.size) o szl; have f0 := fun o => hf (wr.heap.size) o szl; have z0 : wr.heap.size < w2.heap.size := szl; clear hc hf; simp only [go_sem, World.size_alloc, *] at c0 f0)
            go_returns
            exact Ret.int (by rw [H.out, H1.out]) bel
          · have h0 := keyE_ok h1
            have H1 := Lib.hid (show entryE x = keyE x.data by simp [entryE, h1])
            cases h2 : keyOk x.data
            · have k0 := keyE_no h2
              have H := Lib.hid (HF.out.trans (firstFrom_no HX.out (by rw [H1.out, k0]; rfl)))
              go_wp2_with (go_at_call 83; (with_reducible refine (r_KeyCheck _ (by first | exact HXW.out.code | exact HXW.out.data) _).mono ?_); intro e w2 hr; obtain ⟨rfl, hb, hc, hf, hz⟩ := hr.use; (try simp only [ws] at hz); clear hr; have c0 := fun o => hc (wr.heap.size) o szl; have f0 := fun o => hf (wr.heap.size) o szl; have z0 : wr.heap.size < w2.heap.size := szl; clear hc hf; simp only [go_sem, World.size_alloc, *] at c0 f0)
              go_returns
              exact Ret.int (by rw [H.out, H1.out, k0]) bel
            · have k0 := keyE_ok h2
              have H := Lib.hid (HF.out.trans (firstFrom_ok HX.out (by rw [H1.out, k0]; rfl)))
              go_wp2_with (go_at_call 83; (with_reducible refine (r_KeyCheck _ (by first | exact HXW.out.code | exact HXW.out.data) _).mono ?_); intro e w2 hr; obtain ⟨rfl, hb, hc, hf, hz⟩ := hr.use; (try simp only [ws] at hz); clear hr; have c0 := fun o => hc (wr.heap.size) o szl; have f0 := fun o => hf (wr.heap.size) o szl; have z0 : wr.heap.size < w2.heap.size := szl; clear hc hf; simp only [go_sem, World.size_alloc, *] at c0 f0)
              go_roundw
              case rel => exact ⟨k + 1, by go_num, by omega, H.out, bel⟩
              case measure => simp [intOf]; omega
        · have H := Lib.hid (HF.out.trans (firstFrom_end hge))
          go_wp2
          go_returns
          exact Ret.int H.out.symm bel
  · have H := Lib.hid (imgE_mem (es := es) hm)
    go_enter Tryz.func72, Tryz.ntmps72
    go_wp2_with (go_at_call 54; (with_reducible refine (r_MemCheck A c xs _ HW.out ((hL.below ((Below.refl _ _).alloc (Nat.le_refl _) _)).more (by simp [World.size_alloc]))).mono ?_); intro e w1 hr; obtain ⟨rfl, hb, hc, hf, hz⟩ := hr.use; (try simp only [ws] at hz); clear hr; have c0 := fun o => hc (w.heap.size) o szl; have f0 := fun o => hf (w.heap.size) o szl; have z0 : w.heap.size < w1.heap.size := szl; clear hc hf; simp only [go_sem, World.size_alloc, *] at c0 f0)
    go_returns
    exact Ret.int H.out.symm bel
end Go.Proofs.YthmpnnfejghhfaaGreatDoor
namespace Go.Proofs.YthmpnnfejghhfaaGreatDoor
open Go.RowKit
set_option linter.unusedVariables false
set_option linter.unusedSimpArgs false
set_option maxRecDepth 100000

theorem str_beq (a b : ByteArray) : (a.toList == b.toList) = decide (a = b) := by
  rw [ByteArray.toList_eq, ByteArray.toList_eq]
  by_cases h : a = b
  · subst h; simp
  · rw [decide_eq_false h, beq_eq_false_iff_ne]
    exact fun e => h (WideShapes.bytes_inj e)
@[go_sem] theorem Entry.eta (k : Entry) : Entry.mk k.name k.code k.data = k := rfl
theorem Entry_eq {x0 : ByteArray} {x1 : Key} {x2 : Key} {y0 : ByteArray} {y1 : Key} {y2 : Key} : (Entry.mk x0 x1 x2 = Entry.mk y0 y1 y2) ↔ (x0 = y0 ∧ x1 = y1 ∧ x2 = y2) := ⟨fun h => Entry.ext_iff'.2 h, fun h => Entry.ext_iff'.1 h⟩
theorem eqf_Entry (d : Nat) (a0 : ByteArray) (a1 : Int) (a2 : Int) (a3 : Int) (a4 : Int) (a5 : Int) (a6 : Int) (a7 : Int) (a8 : Int) (a9 : Int) (a10 : Int) (b0 : ByteArray) (b1 : Int) (b2 : Int) (b3 : Int) (b4 : Int) (b5 : Int) (b6 : Int) (b7 : Int) (b8 : Int) (b9 : Int) (b10 : Int) (w : World) : (Op.equalIn (d + 4) 119 (.agg #[.string a0, .int .i64 a1, .int .i64 a2, .int .i64 a3, .int .i64 a4, .int .i64 a5, .int .i64 a6, .int .i64 a7, .int .i64 a8, .int .i64 a9, .int .i64 a10]) (.agg #[.string b0, .int .i64 b1, .int .i64 b2, .int .i64 b3, .int .i64 b4, .int .i64 b5, .int .i64 b6, .int .i64 b7, .int .i64 b8, .int .i64 b9, .int .i64 b10])).run Tryz.prog w = .ok (decide ((Entry.mk a0 (Key.mk a1 a2 a3 a4 a5) (Key.mk a6 a7 a8 a9 a10)) = (Entry.mk b0 (Key.mk b1 b2 b3 b4 b5) (Key.mk b6 b7 b8 b9 b10)))) w := by
  rw [run_equalIn_struct _ _ _ _ _ rfl (by kernel_rfl)]
  simp [go_sem, Entry_eq, key_eq, str_beq]
  repeat' split
  all_goals simp_all
@[go_sem high] theorem eql_Entry (a0 : ByteArray) (a1 : Int) (a2 : Int) (a3 : Int) (a4 : Int) (a5 : Int) (a6 : Int) (a7 : Int) (a8 : Int) (a9 : Int) (a10 : Int) (b0 : ByteArray) (b1 : Int) (b2 : Int) (b3 : Int) (b4 : Int) (b5 : Int) (b6 : Int) (b7 : Int) (b8 : Int) (b9 : Int) (b10 : Int) (w : World) : (binOp .eql 119 (.agg #[.string a0, .int .i64 a1, .int .i64 a2, .int .i64 a3, .int .i64 a4, .int .i64 a5, .int .i64 a6, .int .i64 a7, .int .i64 a8, .int .i64 a9, .int .i64 a10]) (.agg #[.string b0, .int .i64 b1, .int .i64 b2, .int .i64 b3, .int .i64 b4, .int .i64 b5, .int .i64 b6, .int .i64 b7, .int .i64 b8, .int .i64 b9, .int .i64 b10])).run Tryz.prog w = .ok (.bool (decide ((Entry.mk a0 (Key.mk a1 a2 a3 a4 a5) (Key.mk a6 a7 a8 a9 a10)) = (Entry.mk b0 (Key.mk b1 b2 b3 b4 b5) (Key.mk b6 b7 b8 b9 b10))))) w := by
  rw [run_eql_struct, eqf_Entry 9996]
  rfl
@[go_sem high] theorem neq_Entry (a0 : ByteArray) (a1 : Int) (a2 : Int) (a3 : Int) (a4 : Int) (a5 : Int) (a6 : Int) (a7 : Int) (a8 : Int) (a9 : Int) (a10 : Int) (b0 : ByteArray) (b1 : Int) (b2 : Int) (b3 : Int) (b4 : Int) (b5 : Int) (b6 : Int) (b7 : Int) (b8 : Int) (b9 : Int) (b10 : Int) (w : World) : (binOp .neq 119 (.agg #[.string a0, .int .i64 a1, .int .i64 a2, .int .i64 a3, .int .i64 a4, .int .i64 a5, .int .i64 a6, .int .i64 a7, .int .i64 a8, .int .i64 a9, .int .i64 a10]) (.agg #[.string b0, .int .i64 b1, .int .i64 b2, .int .i64 b3, .int .i64 b4, .int .i64 b5, .int .i64 b6, .int .i64 b7, .int .i64 b8, .int .i64 b9, .int .i64 b10])).run Tryz.prog w = .ok (.bool (!(decide ((Entry.mk a0 (Key.mk a1 a2 a3 a4 a5) (Key.mk a6 a7 a8 a9 a10)) = (Entry.mk b0 (Key.mk b1 b2 b3 b4 b5) (Key.mk b6 b7 b8 b9 b10)))))) w := by
  rw [run_neq_struct, eqf_Entry 9996]
  rfl
def Entry.zero : Entry := ⟨⟨#[]⟩, Key.zero, Key.zero⟩
def nameP (s : ByteArray) (x : Entry) : Bool := x.name.toList == s.toList
def findE (es : List Entry) (s : ByteArray) : Entry × Bool := match es[(idxP (nameP s) es).toNat]? with
  | some x => if idxP (nameP s) es < 0 then (Entry.zero, false) else (x, true)
  | none => (Entry.zero, false)
theorem findE_none {es : List Entry} {s : ByteArray} (h : idxP (nameP s) es = -1) : findE es s = (Entry.zero, false) := by
  unfold findE
  rw [h]
  split <;> rfl
theorem findE_some {es : List Entry} {s : ByteArray} {i : Nat} {x : Entry} (h : idxP (nameP s) es = i) (hx : es[i]? = some x) : findE es s = (x, true) := by
  unfold findE
  rw [h, Int.toNat_natCast, hx]
  simp only
  rw [if_neg (by omega)]
section
variable {α : Type} {p : α → Bool} {l : List α}
theorem idxFrom_first {k i : Nat} (h : idxFrom p l k = i) : ∀ j y, k ≤ j → j < i → l[j]? = some y → p y = false := by
  intro j y hkj hji hy
  unfold idxFrom at h
  split at h
  · rename_i m hm
    rw [List.findIdx?_eq_some_iff_getElem] at hm
    obtain ⟨h1, h2, h3⟩ := hm
    obtain rfl : m + k = i := by omega
    have h4 := h3 (j - k) (by omega)
    rw [List.getElem_drop] at h4
    obtain ⟨hj, e⟩ := List.getElem?_eq_some_iff.1 hy
    rw [← e]
    simpa [show k + (j - k) = j by omega] using h4
  · omega
theorem idxFrom_of {k i : Nat} {x : α} (hki : k ≤ i) (hx : l[i]? = some x) (hp : p x = true) (hf : ∀ j y, k ≤ j → j < i → l[j]? = some y → p y = false) : idxFrom p l k = i := by
  induction hn : i - k generalizing k with
  | zero =>
    obtain rfl : k = i := by omega
    exact idxFrom_yes hx hp
  | succ n ih =>
    have hlt : i < l.length := (List.getElem?_eq_some_iff.1 hx).1
    have hk : l[k]? = some l[k] := List.getElem?_eq_getElem (by omega)
    rw [idxFrom_no hk (hf k _ (Nat.le_refl k) (by omega) hk)]
    exact ih (by omega) (fun j y h1 h2 => hf j y (by omega) h2) (by omega)
def noneTo (p : α → Bool) (l : List α) (m : Nat) : Bool := (l.take m).all fun y => !p y
theorem noneTo_zero : noneTo p l 0 = true := by simp [noneTo]
theorem noneTo_succ {m : Nat} {x : α} (h : l[m]? = some x) : noneTo p l (m + 1) = (noneTo p l m && !p x) := by
  obtain ⟨hm, he⟩ := List.getElem?_eq_some_iff.1 h
  unfold noneTo
  rw [List.take_succ_eq_append_getElem hm, List.all_append, he]
  simp
theorem noneTo_iff {m : Nat} : noneTo p l m = true ↔ ∀ j y, j < m → l[j]? = some y → p y = false := by
  induction m with
  | zero => simp [noneTo]
  | succ m ih =>
    cases h : l[m]? with
    | none =>
      have : l.length ≤ m := by simpa using h
      have e : noneTo p l (m + 1) = noneTo p l m := by unfold noneTo; rw [List.take_of_length_le (by omega), List.take_of_length_le this]
      rw [e, ih]
      constructor
      · intro hh j y hj hy
        have := (List.getElem?_eq_some_iff.1 hy).1
        exact hh j y (by omega) hy
      · intro hh j y hj hy; exact hh j y (by omega) hy
    | some x =>
      rw [noneTo_succ h, Bool.and_eq_true, ih]
      constructor
      · rintro ⟨h1, h2⟩ j y hj hy
        rcases Nat.lt_or_ge j m with hl | hl
        · exact h1 j y hl hy
        · obtain rfl : j = m := by omega
          cases h.symm.trans hy
          simpa using h2
      · intro hh
        exact ⟨fun j y hj hy => hh j y (by omega) hy, by simpa using hh m x (by omega) h⟩
theorem idxP_at {i : Nat} {x : α} (hx : l[i]? = some x) : idxP p l = i ↔ p x = true ∧ noneTo p l i = true := by
  constructor
  · intro h
    obtain ⟨_, y, hy, hp⟩ := idxFrom_lt h
    cases hx.symm.trans hy
    exact ⟨hp, noneTo_iff.2 fun j z hj hz => idxFrom_first h j z (by omega) hj hz⟩
  · rintro ⟨h1, h2⟩
    exact idxFrom_of (by omega) hx h1 fun j y _ hj hy => noneTo_iff.1 h2 j y hj hy
end

def entryZ : Array Value := #[.string ⟨#[]⟩, .int .i64 0, .int .i64 0, .int .i64 0, .int .i64 0, .int .i64 0, .int .i64 0, .int .i64 0, .int .i64 0, .int .i64 0, .int .i64 0]
theorem Ret.entry {p q : Entry × Bool} {w w' : World} (h : q = p) (hb : Below w.heap.size w w') :
    Ret (.tuple #[.agg #[.string p.1.name, .int .i64 p.1.code.perm, .int .i64 p.1.code.base, .int .i64 p.1.code.len, .int .i64 p.1.code.pos, .int .i64 p.1.code.tag, .int .i64 p.1.data.perm, .int .i64 p.1.data.base, .int .i64 p.1.data.len, .int .i64 p.1.data.pos, .int .i64 p.1.data.tag], .bool p.2]) w (.returned (.tuple #[.agg #[.string q.1.name, .int .i64 q.1.code.perm, .int .i64 q.1.code.base, .int .i64 q.1.code.len, .int .i64 q.1.code.pos, .int .i64 q.1.code.tag, .int .i64 q.1.data.perm, .int .i64 q.1.data.base, .int .i64 q.1.data.len, .int .i64 q.1.data.pos, .int .i64 q.1.data.tag], .bool q.2])) w' := by subst h; exact ⟨rfl, hb⟩
theorem info_size {P : Program} {e : TypeId} {z : Value} {n b : Nat} (h : (P.info? e).map (fun i => (i.zero, i.size, i.bytes)) = some (some z, n, b)) : (P.info? e).map (·.size) = some n := by
  cases hi : P.info? e with
  | none => rw [hi] at h; cases h
  | some i => rw [hi] at h; simp at h ⊢; exact h.2.1
theorem size_entry : (Tryz.prog.info? 119).map (·.size) = some 11 := by kernel_rfl
theorem imgE3 (Mv Pv Ev : Value) (w : World) : KeptB w [(#[Mv, Pv, Ev], 49), (entryZ, 119)] ((w.alloc (.cells #[Mv, Pv, Ev] 49)).alloc (.cells entryZ 119)) :=
  ((KeptB.nil_ (Below.refl _ w)).more (t := 49) (cs := #[Mv, Pv, Ev]) rfl).more (by simp [World.size_alloc])
set_option maxHeartbeats 1000000 in
theorem c_link_Find (E : Option Addr) (e : Nat) (Mv Pv : Value) (es : List Entry) (s : ByteArray) (w : World) (hlen : es.length ≤ maxLen) (hM : Lies encE 11 w w.heap.size E es) :
    Calls Tryz.prog 71 #[.agg #[Mv, Pv, .slice E es.length e], .string s] w (Ret (.tuple #[.agg #[.string (findE es s).1.name, .int .i64 (findE es s).1.code.perm, .int .i64 (findE es s).1.code.base, .int .i64 (findE es s).1.code.len, .int .i64 (findE es s).1.code.pos, .int .i64 (findE es s).1.code.tag, .int .i64 (findE es s).1.data.perm, .int .i64 (findE es s).1.data.base, .int .i64 (findE es s).1.data.len, .int .i64 (findE es s).1.data.pos, .int .i64 (findE es s).1.data.tag], .bool (findE es s).2]) w) := by
  have hlen' : es.length ≤ 9223372036854775807 := by unfold maxLen at hlen; omega
  clear hlen
  go_enter Tryz.func71, Tryz.ntmps71
  go_wp2
  go_loopw [7, 11] (fun _ v wr => ∃ k : Nat, v = .int .i64 k ∧ k ≤ es.length ∧ idxP (nameP s) es = idxFrom (nameP s) es k ∧ KeptB w [(#[Mv, Pv, .slice E es.length e], 49), (entryZ, 119)] wr) (fun _ v _ => (es.length - intOf v).toNat)
  case atStart => exact ⟨0, rfl, by omega, rfl, imgE3 _ _ _ w⟩
  case round =>
    obtain ⟨k, rfl, hk, he, hK⟩ := hrel
    have HK := Lib.hid hK
    have hbw := hK.below
    have HB1 := Lib.hid (hK.box 1 _ rfl)
    have z1 : w.heap.size + 1 < wr.heap.size := HB1.out.lt
    clear hK
    have HF := Lib.hid he
    clear he
    rcases Nat.lt_or_ge k es.length with hlt | hge
    · obtain ⟨b, o, x, rfl, hb, hx, q0, q1, q2, q3, q4, q5, q6, q7, q8, q9, q10⟩ := (hM.below hbw).cellsE hlt
      have HX := Lib.hid hx
      clear hx
      cases h1 : (x.name.toList == s.toList)
      · have H := Lib.hid (HF.out.trans (idxFrom_no (p := nameP s) HX.out h1))
        go_wp2
        go_roundw
        case rel => exact ⟨k + 1, by go_num, by omega, H.out, HK.out.alloc _⟩
        case measure => simp [intOf]; omega
      · have H := Lib.hid (findE_some (HF.out.trans (idxFrom_yes (p := nameP s) HX.out h1)) HX.out)
        go_wp2_with (refine wpList_store_box rfl 119 (.tmp 4) _ rfl (HB1.out.alloc _) rfl rfl size_entry rfl (by simp [Value.oneCell']) ?_; intro w2 hb2 hg2 hz2)
        ((try simp only [Exit.inBlock, Exit.then]); refine bodyPost_ret (results_ct rfl rfl hb2 Tryz.underlying119 rfl size_entry) rfl ?_)
        refine Ret.entry (q := (x, true)) H.out.symm ((hbw.alloc (by omega) _).grown hg2 (by simp [World.size_alloc]; omega) (fun k hk => by cases hk; omega))
    · have H := Lib.hid (findE_none (HF.out.trans (idxFrom_end hge)))
      go_wp2_with (refine wpList_store_box rfl 119 (.tmp 4) _ rfl HB1.out rfl rfl size_entry rfl (by simp [Value.oneCell']) ?_; intro w2 hb2 hg2 hz2)
      ((try simp only [Exit.inBlock, Exit.then]); refine bodyPost_ret (results_ct rfl rfl hb2 Tryz.underlying119 rfl size_entry) rfl ?_)
      refine Ret.entry (q := (Entry.zero, false)) H.out.symm (hbw.grown hg2 (by omega) (fun k hk => by cases hk; omega))
theorem idxP_lt {α : Type} {p : α → Bool} {l : List α} (h : idxP p l ≤ (-1 : Int)) : idxP p l = -1 := by
  rcases idxFrom_cases p l 0 with h1 | ⟨i, h1⟩
  · exact h1
  · have : idxP p l = i := h1
    omega
set_option maxHeartbeats 2000000 in
theorem r_Find (E : Option Addr) (e : Nat) (Mv Pv : Value) (es : List Entry) (s : ByteArray) (w : World) (he : es.length ≤ e) (hlen : e ≤ maxLen) (hM : Lies encE 11 w w.heap.size E es) :
    Calls Tryz.prog 73 #[.agg #[Mv, Pv, .slice E es.length e], .string s] w (Ret (.tuple #[.agg #[.string (findE es s).1.name, .int .i64 (findE es s).1.code.perm, .int .i64 (findE es s).1.code.base, .int .i64 (findE es s).1.code.len, .int .i64 (findE es s).1.code.pos, .int .i64 (findE es s).1.code.tag, .int .i64 (findE es s).1.data.perm, .int .i64 (findE es s).1.data.base, .int .i64 (findE es s).1.data.len, .int .i64 (findE es s).1.data.pos, .int .i64 (findE es s).1.data.tag], .bool (findE es s).2]) w) := by
  have hlen' : e ≤ 9223372036854775807 := by unfold maxLen at hlen; omega
  clear hlen
  go_enter Tryz.func73, Tryz.ntmps73
  go_wp2
  go_loopw [6, 7, 9, 23] (fun v _ _ _ wr => ((v = .int .i64 (-1) ∧ idxP (nameP s) es = -1) ∨ ∃ j : Nat, v = .int .i64 j ∧ j < es.length ∧ idxP (nameP s) es ≤ j) ∧ KeptB w [(#[Mv, Pv, .slice E es.length e], 49), (entryZ, 119)] wr) (fun v _ _ _ _ => (intOf v + 1).toNat)
  case atStart =>
    refine ⟨?_, imgE3 _ _ _ w⟩
    rcases Nat.eq_zero_or_pos es.length with h0 | h0
    · left
      have : es = [] := List.eq_nil_of_length_eq_zero h0
      subst this
      exact ⟨rfl, idxFrom_end (by simp)⟩
    · right
      refine ⟨es.length - 1, ?_, by omega, ?_⟩
      · rw [show ((es.length - 1 : Nat) : Int) = (es.length : Int) - 1 by omega]
      · rcases idxFrom_cases (nameP s) es 0 with h1 | ⟨i, h1⟩
        · rw [show idxP (nameP s) es = -1 from h1]; omega
        · have := (idxFrom_lt h1).1
          rw [show idxP (nameP s) es = i from h1]; omega
  case round =>
    obtain ⟨hr, hK⟩ := hrel
    have HK := Lib.hid hK
    have hbw := hK.below
    have HB1 := Lib.hid (hK.box 1 _ rfl)
    have HB0 := Lib.hid (hK.box 0 _ rfl)
    have z1 : w.heap.size + 1 < wr.heap.size := HB1.out.lt
    have c0 := fun o => HB0.out.cell o
    simp only [Nat.add_zero] at c0
    clear hK
    rcases hr with ⟨rfl, hi⟩ | ⟨j, rfl, hj, hi⟩
    · have H := Lib.hid (findE_none hi)
      clear hi
      go_wp2_with (refine wpList_store_box rfl 119 (.tmp 4) _ rfl HB1.out rfl rfl size_entry rfl (by simp [Value.oneCell']) ?_; intro w2 hb2 hg2 hz2)
      ((try simp only [Exit.inBlock, Exit.then]); refine bodyPost_ret (results_ct rfl rfl hb2 Tryz.underlying119 rfl size_entry) rfl ?_)
      refine Ret.entry (q := (Entry.zero, false)) H.out.symm (hbw.grown hg2 (by omega) (fun k hk => by cases hk; omega))
    · have HI := Lib.hid hi
      clear hi
      obtain ⟨wo, hwo⟩ : ∃ wo : World, wo = wr := ⟨_, rfl⟩
      subst hwo
      go_wp2
      go_loopw [7, 9, 23] (fun v7 _ v wi => ∃ m : Nat, v = .int .i64 m ∧ m ≤ j ∧ v7 = .bool (noneTo (nameP s) es m) ∧ KeptB w [(#[Mv, Pv, .slice E es.length e], 49), (entryZ, 119)] wi) (fun _ _ v _ => (j - intOf v).toNat)
      case atStart => exact ⟨0, rfl, by omega, by rw [noneTo_zero], HK.out⟩
      case round =>
        obtain ⟨m, rfl, hm, rfl, hK⟩ := hrel
        have HKi := Lib.hid hK
        have hbi := hK.below
        have HBi1 := Lib.hid (hK.box 1 _ rfl)
        have HBi0 := Lib.hid (hK.box 0 _ rfl)
        have zi1 : w.heap.size + 1 < wr.heap.size := HBi1.out.lt
        have ci0 := fun o => HBi0.out.cell o
        simp only [Nat.add_zero] at ci0
        clear hK c0 z1
        rcases Nat.lt_or_ge m j with hmj | hge
        · obtain ⟨b, o, x, rfl, hb, hx, q0, q1, q2, q3, q4, q5, q6, q7, q8, q9, q10⟩ := (hM.below hbi).cellsE (k := m) (by omega)
          have HX := Lib.hid hx
          clear hx
          cases hn : noneTo (nameP s) es m
          · have H := Lib.hid (show noneTo (nameP s) es (m + 1) = false by rw [noneTo_succ HX.out, hn]; rfl)
            go_wp2
            go_roundw
            case rel => exact ⟨m + 1, by go_num, by omega, by rw [H.out], HKi.out.alloc _⟩
            case measure => simp [intOf]; omega
          · cases h1 : (x.name.toList == s.toList)
            · have H := Lib.hid (show noneTo (nameP s) es (m + 1) = true by rw [noneTo_succ HX.out, hn]; simp [nameP, h1])
              go_wp2
              go_roundw
              case rel => exact ⟨m + 1, by go_num, by omega, by rw [H.out], HKi.out.alloc _⟩
              case measure => simp [intOf]; omega
            · have H := Lib.hid (show noneTo (nameP s) es (m + 1) = false by rw [noneTo_succ HX.out, hn]; simp [nameP, h1])
              go_wp2
              go_roundw
              case rel => exact ⟨m + 1, by go_num, by omega, by rw [H.out], HKi.out.alloc _⟩
              case measure => simp [intOf]; omega
        · obtain rfl : m = j := by omega
          obtain ⟨b, o, x, rfl, hb, hx, q0, q1, q2, q3, q4, q5, q6, q7, q8, q9, q10⟩ := (hM.below hbi).cellsE (k := m) (by omega)
          have HX := Lib.hid hx
          clear hx
          have hmi : (m : Int) < es.length := by omega
          have hnext : ¬(nameP s x = true ∧ noneTo (nameP s) es m = true) → (Value.int .i64 ((m : Int) - 1) = .int .i64 (-1) ∧ idxP (nameP s) es = -1) ∨ ∃ j : Nat, Value.int .i64 ((m : Int) - 1) = .int .i64 j ∧ j < es.length ∧ idxP (nameP s) es ≤ j := fun hne => by
            have hne' : ¬ idxP (nameP s) es = m := fun h => hne ((idxP_at HX.out).1 h)
            have h0 := HI.out
            rcases m with _ | m
            · exact .inl ⟨rfl, idxP_lt (by omega)⟩
            · exact .inr ⟨m, by rw [show ((m + 1 : Nat) : Int) - 1 = m by omega], by omega, by omega⟩
          have HN := Lib.hid hnext
          clear hnext
          cases h1 : (x.name.toList == s.toList)
          · have H := Lib.hid (HN.out (fun h => by rw [show nameP s x = false from h1] at h; cases h.1))
            go_wp2
            go_roundw
            case rel => exact ⟨H.out, HKi.out⟩
            case measure => simp [intOf] <;> omega
          · cases hn : noneTo (nameP s) es m
            · have H := Lib.hid (HN.out (fun h => by rw [hn] at h; cases h.2))
              go_wp2
              go_roundw
              case rel => exact ⟨H.out, HKi.out⟩
              case measure => simp [intOf] <;> omega
            · have H := Lib.hid (findE_some ((idxP_at HX.out).2 ⟨h1, hn⟩) HX.out)
              go_wp2_with (refine wpList_store_box rfl 119 (.tmp 4) _ rfl HBi1.out rfl rfl size_entry rfl (by simp [Value.oneCell']) ?_; intro w2 hb2 hg2 hz2)
              ((try simp only [Exit.inBlock, Exit.then]); refine bodyPost_ret (results_ct rfl rfl hb2 Tryz.underlying119 rfl size_entry) rfl ?_)
              refine Ret.entry (q := (x, true)) H.out.symm (hbi.grown hg2 (by omega) (fun k hk => by cases hk; omega))
end Go.Proofs.YthmpnnfejghhfaaGreatDoor
namespace Go.Proofs.YthmpnnfejghhfaaGreatDoor
open Go.RowKit
set_option linter.unusedVariables false
set_option linter.unusedSimpArgs false
set_option maxRecDepth 100000

def Val.nil : Val := ⟨false, 0, Key.zero⟩
def argRegs (l : List Int) : List Val := l.map (fun n => ⟨false, n, Key.zero⟩) ++ List.replicate (8 - l.length) Val.nil
theorem argRegs_len {l : List Int} (h : l.length ≤ 8) : (argRegs l).length = 8 := by simp [argRegs]; omega
theorem argRegs_step {l : List Int} {k : Nat} {n : Int} (hk : l[k]? = some n) (h8 : k < 8) : (argRegs (l.take k)).set k ⟨false, n, Key.zero⟩ = argRegs (l.take (k + 1)) := by
  have hlt : k < l.length := (List.getElem?_eq_some_iff.1 hk).1
  unfold argRegs
  have hlen : ((l.take k).map (fun n : Int => Val.mk false n Key.zero)).length = k := by simp; omega
  rw [List.set_append_right (h := by omega), hlen, Nat.sub_self, List.take_add_one, hk, show 8 - (l.take k).length = (8 - (k + 1)) + 1 by simp; omega, List.replicate_succ, List.set_cons_zero]
  simp only [Option.toList_some, List.map_append, List.map_cons, List.map_nil, List.append_assoc, List.singleton_append, List.length_append, List.length_take, List.length_cons, List.length_nil, Nat.min_eq_left (Nat.le_of_lt hlt), Nat.zero_add]
theorem argRegs_at {l : List Int} {k : Nat} (hk : k ≤ l.length) (h8 : k < 8) : (argRegs (l.take k))[k]? = some Val.nil := by
  unfold argRegs
  have hlen : ((l.take k).map (fun n : Int => Val.mk false n Key.zero)).length = k := by simp; omega
  rw [List.getElem?_append_right (by omega), hlen, Nat.sub_self, show 8 - (l.take k).length = (8 - (k + 1)) + 1 by simp; omega, List.replicate_succ]
  rfl
def enterF (xs : List Val) (es : List Entry) (s : ByteArray) (l : List Int) : Mach × Int :=
  if (imgE xs es != 0) = true then (Mach.zero, imgE xs es) else if 7 < l.length then (Mach.zero, 2) else if (firstE numE l != 0) = true then (Mach.zero, 1)
  else if (findE es s).2 = false then (Mach.zero, 7)
  else (⟨(argRegs l).set 7 ⟨true, 0, { (findE es s).1.data with tag := 0 }⟩, { (findE es s).1.code with tag := 0 }, xs, [], []⟩, 0)
section
variable {xs : List Val} {es : List Entry} {s : ByteArray} {l : List Int}
theorem enterF_img (h : (imgE xs es != 0) = true) : enterF xs es s l = (Mach.zero, imgE xs es) := by unfold enterF; rw [if_pos h]
theorem enterF_large (h : (imgE xs es != 0) = false) (h1 : 7 < l.length) : enterF xs es s l = (Mach.zero, 2) := by unfold enterF; rw [if_neg (by simp [h]), if_pos h1]
theorem enterF_num (h : (imgE xs es != 0) = false) (h1 : ¬ 7 < l.length) (h2 : (firstE numE l != 0) = true) : enterF xs es s l = (Mach.zero, 1) := by unfold enterF; rw [if_neg (by simp [h]), if_neg h1, if_pos h2]
theorem enterF_none (h : (imgE xs es != 0) = false) (h1 : ¬ 7 < l.length) (h2 : (firstE numE l != 0) = false) (h3 : (findE es s).2 = false) : enterF xs es s l = (Mach.zero, 7) := by unfold enterF; rw [if_neg (by simp [h]), if_neg h1, if_neg (by simp [h2]), if_pos h3]
theorem enterF_is (h : (imgE xs es != 0) = false) (h1 : ¬ 7 < l.length) (h2 : (firstE numE l != 0) = false) (h3 : (findE es s).2 = true) :
    enterF xs es s l = (⟨(argRegs l).set 7 ⟨true, 0, { (findE es s).1.data with tag := 0 }⟩, { (findE es s).1.code with tag := 0 }, xs, [], []⟩, 0) := by unfold enterF; rw [if_neg (by simp [h]), if_neg h1, if_neg (by simp [h2]), if_neg (by simp [h3])]
theorem imgE_len (h : (imgE xs es != 0) = false) : xs.length ≤ 400 := by
  cases hm : (memE xs != 0)
  · exact memE_len hm
  · rw [imgE_mem hm, hm] at h; cases h
theorem imgE_max (h : (imgE xs es != 0) = false) : xs.length ≤ maxLen := by have := imgE_len h; unfold maxLen; omega
theorem imgE_big (h : (imgE xs es != 0) = false) : xs.length * 56 ≤ 140737488355328 := by have := imgE_len h; omega
end
def zeroM : Array Value := (machL (List.replicate 8 Val.nil) Key.zero nilS nilS nilS).toArray
theorem zeroM_size : zeroM.size = 64 := by rw [zeroM, List.size_toArray, machL_length rfl]
theorem grown_cell {w w' : World} {row : Option Nat} (hg : w.grownBy w' row) {p : Addr} (hk : p.block < w.heap.size) (hne : some p.block ≠ row) : w'.cell? p = w.cell? p := World.cell?_of_block (w := w) (hg.block _ hk hne)
theorem imgB (ic : Array Value) (w : World) : KeptB w [(ic, 49), (zeroM, 31)] ((w.alloc (.cells ic 49)).alloc (.cells zeroM 31)) :=
  ((KeptB.nil_ (Below.refl _ w)).more (t := 49) (cs := ic) rfl).more (t := 31) (cs := zeroM) (by rw [World.size_alloc]; rfl)
set_option maxHeartbeats 4000000 in
theorem c_enter_Enter (A E Ap O : Option Addr) (c e np cp o : Nat) (xs : List Val) (es : List Entry) (s : ByteArray) (l : List Int) (w : World) (he : es.length ≤ maxLen) (ho : l.length ≤ maxLen) (hL : Lies encV 7 w w.heap.size A xs) (hM : Lies encE 11 w w.heap.size E es) (hN : Lies encI 1 w w.heap.size O l) :
    Calls Tryz.prog 40 #[.agg #[.slice A xs.length c, .slice Ap np cp, .slice E es.length e], .string s, .slice O l.length o] w (RetMach w (enterF xs es s l).1 fun v => .tuple #[v, .int .i64 (enterF xs es s l).2]) := by
  have HL := Lib.hid hL
  have HM := Lib.hid hM
  have HN := Lib.hid hN
  clear hL hM hN
  cases h0 : (imgE xs es != 0)
  · by_cases h1 : 7 < l.length
    · rw [enterF_large h0 h1]
      go_enter Tryz.func40, Tryz.ntmps40
      go_wp2_with (first | (go_at_call 70; (with_reducible refine (c_enter_Check A E Ap c e np cp xs es _ ((HL.out.below bel).more (by ((try simp only [World.size_alloc, World.size_setCell, World.size_drew]) <;> omega))) ((HM.out.below bel).more (by ((try simp only [World.size_alloc, World.size_setCell, World.size_drew]) <;> omega)))).mono ?_); intro e w1 hr; obtain ⟨rfl, hb, hc, hf, hz⟩ := hr.use; clear hr hc hf; have hK := KeptB.on (imgB _ w) hb; clear hb hz; have HK := Lib.hid hK; have hbw := hK.below; have HB0 := Lib.hid (hK.box 0 _ rfl); have c0 := fun o => HB0.out.cell o; have f0 := fun o => HB0.out.frozen o; have z0 := HB0.out.lt; (try dsimp only at c0); have HB1 := Lib.hid (hK.box 1 _ rfl); have c1 := fun o => HB1.out.cell o; have f1 := fun o => HB1.out.frozen o; have z1 := HB1.out.lt; (try dsimp only at c1); (try simp only [Nat.add_zero] at c0 f0 z0); clear hK) | (refine wpList_store_box rfl 31 (.tmp 6) (.tmp 23) rfl (HK.out.box 1 _ rfl) rfl rfl (by kernel_rfl) rfl (by simp [Value.oneCell']) ?_; intro w2 hbw2 hgw2 hzw2) | fail)
      have hbw3 : Box w2 (w.heap.size + 1) 31 zeroM := hbw2
      ((try simp only [Exit.inBlock, Exit.then]); refine bodyPost_ret (results_ct rfl rfl hbw3 Tryz.underlying31 rfl (by kernel_rfl)) rfl ?_)
      exact ⟨_, rfl, MachV.zero w2 _, hbw.grown hgw2 (by omega) (fun k hk => by cases hk; omega)⟩
    · have h1' : l.length ≤ 7 := by omega
      go_enter Tryz.func40, Tryz.ntmps40
      have hx1 := Lib.hid (imgE_max h0)
      have hx2 := Lib.hid (imgE_big h0)
      go_wp2_with (first | (go_at_call 70; (with_reducible refine (c_enter_Check A E Ap c e np cp xs es _ ((HL.out.below bel).more (by ((try simp only [World.size_alloc, World.size_setCell, World.size_drew]) <;> omega))) ((HM.out.below bel).more (by ((try simp only [World.size_alloc, World.size_setCell, World.size_drew]) <;> omega)))).mono ?_); intro e w1 hr; obtain ⟨rfl, hb, hc, hf, hz⟩ := hr.use; clear hr hc hf; have hK := KeptB.on (imgB _ w) hb; clear hb hz; have HK := Lib.hid hK; have hbw := hK.below; have HB0 := Lib.hid (hK.box 0 _ rfl); have c0 := fun o => HB0.out.cell o; have f0 := fun o => HB0.out.frozen o; have z0 := HB0.out.lt; (try dsimp only at c0); have HB1 := Lib.hid (hK.box 1 _ rfl); have c1 := fun o => HB1.out.cell o; have f1 := fun o => HB1.out.frozen o; have z1 := HB1.out.lt; (try dsimp only at c1); (try simp only [Nat.add_zero] at c0 f0 z0); clear hK) | (go_at_call 41; (with_reducible refine (c_Clone_V A c xs _ hx1.out hx2.out ((HL.out.below hbw).more (by omega))).mono ?_); rintro e w2 ⟨A2, k2, rfl, hO2, hL2, hb2⟩) | (refine wpList_store_box rfl 31 (.tmp 9) (.tmp 27) rfl (Box.new _ _ _ rfl) rfl rfl (by kernel_rfl) rfl (by simp [Value.oneCell']) ?_; intro w3 hbw3 hgw3 hzw3) | fail)
      have hbx : Box w3 w2.heap.size 31 (machL (argRegs (l.take 0)) Key.zero (.slice A2 xs.length k2) nilS nilS).toArray := hbw3
      clear hbw3
      have HB3 := Lib.hid hbx
      have hb3 : Below w2.heap.size w2 w3 := ((Below.refl _ w2).alloc (Nat.le_refl _) _).grown hgw3 (by ((try simp only [World.size_alloc, World.size_setCell, World.size_drew]) <;> omega)) (fun k hk => by cases hk; exact Nat.le_refl _)
      have hz2 : w.heap.size + 2 ≤ w2.heap.size := (by have := hb2.size; have := HK.out.size; simp only [List.length_cons, List.length_nil] at this; omega)
      have hz3 : w2.heap.size < w3.heap.size := (by rw [hzw3, World.size_alloc]; omega)
      clear hgw3 hbx hzw3
      have HL3 := Lib.hid (hL2.below hb3)
      have HB := Lib.hid ((HK.out.on hb2).on hb3)
      have E0 := Lib.hid (show firstE numE l = firstFrom numE l 0 from rfl)
      have HC2 := Lib.hid (hO2.cap)
      have HU2 := Lib.hid (show ∀ b o, A2 = some ⟨b, o, none⟩ → w.heap.size + 2 ≤ b from fun b o hA => by have := (hO2.lt b (by rw [hA]; rfl)).1; have := HK.out.size; simp only [List.length_cons, List.length_nil] at this; omega)
      clear hO2 hL2 hb2 hb3 hbw HB0 c0 f0 z0 HB1 c1 f1 z1 HK
      have HC := Lib.hid (show ∃ cs : List Value, cs = [] from ⟨_, rfl⟩)
      go_loopw [10, 11, 30] (fun _ _ v wr => ∃ k : Nat, v = .int .i64 k ∧ k ≤ l.length ∧ firstE numE l = firstFrom numE l k ∧ KeptB w [(#[.slice A xs.length c, .slice Ap np cp, .slice E es.length e], 49), (zeroM, 31)] wr ∧ Box wr w2.heap.size 31 (machL (argRegs (l.take k)) Key.zero (.slice A2 xs.length k2) nilS nilS).toArray ∧ Lies encV 7 wr w2.heap.size A2 xs) (fun _ _ v _ => (l.length - intOf v).toNat)
      case atStart => exact ⟨0, rfl, by omega, E0.out, HB.out, HB3.out, HL3.out⟩
      case round =>
        obtain ⟨k, rfl, hk, he', hkb, hbox, hl2⟩ := hrel
        have HF := Lib.hid he'
        have HBB := Lib.hid hkb
        have HBX := Lib.hid hbox
        have HL2 := Lib.hid hl2
        have hbw := hkb.below
        have hz := hbox.lt
        clear he' hkb hbox hl2 E0 HB HB3 HL3
        rcases Nat.lt_or_ge k l.length with hlt | hge
        · have hk8 : k < 8 := by omega
          have hlen8 : (argRegs (l.take k)).length = 8 := argRegs_len (by rw [List.length_take]; omega)
          obtain ⟨b, oo, n, hOA, hb, hp, q0⟩ := (HN.out.below hbw).cellsI hlt
          subst hOA
          have HP := Lib.hid hp
          have HLEN := Lib.hid hlen8
          have r0 : wr.cell? ⟨w2.heap.size, k * 7 + 1, none⟩ = some (.int .i64 0) := by
            rw [HBX.out.cell, List.getElem?_toArray, machL_reg hlen8 (argRegs_at (by omega) hk8) (by decide)]; rfl
          have r1 := HBX.out.frozen (k * 7 + 1)
          clear hp hlen8
          cases h3 : (n != Go.Proofs.YthmpnnfejghhfaaGreatDoor.wr n)
          · have H := Lib.hid (HF.out.trans (firstFrom_ok HP.out (numE_ok h3)))
            go_wp2_with (go_at_call 47; (with_reducible refine (c_num_Wrap _ _).mono ?_); rintro e w1 ⟨rfl, rfl⟩)
            go_roundw
            case rel =>
              have hst := HBX.out.setReg HLEN.out (argRegs_at (l := l) (k := k) (by omega) hk8) (j := 1) (y := ⟨false, n, Key.zero⟩) (u := .int .i64 n) (by decide) rfl
              rw [argRegs_step HP.out hk8] at hst
              exact ⟨k + 1, by go_num, by omega, H.out, HBB.out.grown' (grown_setCell _ _ _ _) (fun k hk => by cases hk; exact hz2), hst, HL2.out.below ((Below.refl _ wr).grown (grown_setCell _ _ _ _) (by omega) (fun k hk => by cases hk; exact Nat.le_refl _))⟩
            case measure => simp [intOf]; omega
          · have H := Lib.hid (show (firstE numE l != 0) = true by rw [HF.out.trans (firstFrom_no HP.out (numE_no h3))]; exact numE_no h3)
            go_wp2_with (first | (go_at_call 47; (with_reducible refine (c_num_Wrap _ _).mono ?_); rintro e w1 ⟨rfl, rfl⟩) | (refine wpList_store_box rfl 31 (.tmp 6) (.tmp 39) rfl (HBB.out.box 1 _ rfl) rfl rfl (by kernel_rfl) rfl (by simp [Value.oneCell']) ?_; intro w4 hbw4 hgw4 hzw4) | fail)
            have hbw5 : Box w4 (w.heap.size + 1) 31 zeroM := hbw4
            ((try simp only [Exit.inBlock, Exit.then]); refine bodyPost_ret (results_ct rfl rfl hbw5 Tryz.underlying31 rfl (by kernel_rfl)) rfl ?_)
            rw [enterF_num h0 h1 H.out]
            exact ⟨_, rfl, MachV.zero w4 _, hbw.grown hgw4 (by omega) (fun k hk => by cases hk; omega)⟩
        · have H2 := Lib.hid (show (firstE numE l != 0) = false by rw [HF.out.trans (firstFrom_end hge)]; rfl)
          have hk' : k = l.length := by omega
          have HBY := Lib.hid (show Box wr w2.heap.size 31 (machL (argRegs l) Key.zero (.slice A2 xs.length k2) nilS nilS).toArray from by have := HBX.out; rwa [hk', List.take_length] at this)
          cases h3 : (findE es s).2
          · have HE := Lib.hid (enterF_none (s := s) h0 h1 H2.out h3)
            have hK := HBB.out
            (skip; have HK := Lib.hid hK; have hbw := hK.below; have HB0 := Lib.hid (hK.box 0 _ rfl); have c0 := fun o => HB0.out.cell o; have f0 := fun o => HB0.out.frozen o; have z0 := HB0.out.lt; (try dsimp only at c0); have HB1 := Lib.hid (hK.box 1 _ rfl); have c1 := fun o => HB1.out.cell o; have f1 := fun o => HB1.out.frozen o; have z1 := HB1.out.lt; (try dsimp only at c1); (try simp only [Nat.add_zero] at c0 f0 z0); clear hK)
            go_wp2_with (first | (go_at_call 71; (with_reducible refine (c_link_Find E e _ _ es s _ he ((HM.out.below HBB.out.below).more HBB.out.below.size)).mono ?_); intro e w4 hr; obtain ⟨rfl, hb, hc, hf, hz⟩ := hr.use; clear hr hc hf; have hK := KeptB.on (HBB.out) hb; clear hb hz; have HK := Lib.hid hK; have hbw := hK.below; have HB0 := Lib.hid (hK.box 0 _ rfl); have c0 := fun o => HB0.out.cell o; have f0 := fun o => HB0.out.frozen o; have z0 := HB0.out.lt; (try dsimp only at c0); have HB1 := Lib.hid (hK.box 1 _ rfl); have c1 := fun o => HB1.out.cell o; have f1 := fun o => HB1.out.frozen o; have z1 := HB1.out.lt; (try dsimp only at c1); (try simp only [Nat.add_zero] at c0 f0 z0); clear hK) | (refine wpList_store_box rfl 31 (.tmp 6) (.tmp 54) rfl ((HK.out.alloc _).box 1 _ rfl) rfl rfl (by kernel_rfl) rfl (by simp [Value.oneCell']) ?_; intro w5 hbw5 hgw5 hzw5) | fail)
            have hbw6 : Box w5 (w.heap.size + 1) 31 zeroM := hbw5
            ((try simp only [Exit.inBlock, Exit.then]); refine bodyPost_ret (results_ct rfl rfl hbw6 Tryz.underlying31 rfl (by kernel_rfl)) rfl ?_)
            rw [HE.out]
            exact ⟨_, rfl, MachV.zero w5 _, (hbw.alloc (by omega) _).grown hgw5 (by ((try simp only [World.size_alloc, World.size_setCell, World.size_drew]) <;> omega)) (fun k hk => by cases hk; omega)⟩
          · have HE := Lib.hid (enterF_is (s := s) h0 h1 H2.out h3)
            have hK := HBB.out
            (skip; have HK := Lib.hid hK; have hbw := hK.below; have HB0 := Lib.hid (hK.box 0 _ rfl); have c0 := fun o => HB0.out.cell o; have f0 := fun o => HB0.out.frozen o; have z0 := HB0.out.lt; (try dsimp only at c0); have HB1 := Lib.hid (hK.box 1 _ rfl); have c1 := fun o => HB1.out.cell o; have f1 := fun o => HB1.out.frozen o; have z1 := HB1.out.lt; (try dsimp only at c1); (try simp only [Nat.add_zero] at c0 f0 z0); clear hK)
            go_wp2_with (first | ((go_at_call 71; (with_reducible refine (c_link_Find E e _ _ es s _ he ((HM.out.below HBB.out.below).more HBB.out.below.size)).mono ?_); intro e w4 hr; obtain ⟨rfl, hb, hc, hf, hz⟩ := hr.use; (try simp only [ws] at hz); clear hr); have HY := Lib.hid (HBY.out.on hb); have HLL := Lib.hid (HL2.out.below (hb.mono (Nat.le_of_lt HBX.out.lt))); have HK4 := Lib.hid (HBB.out.on hb); clear hb) | fail)
            clear HBX HBY HBB HK HB0 HB1 c0 c1 f0 f1 z0 z1 hbw
            have HB5 := Lib.hid ((HY.out.alloc (.cells #[.string (findE es s).1.name, .int .i64 (findE es s).1.code.perm, .int .i64 (findE es s).1.code.base, .int .i64 (findE es s).1.code.len, .int .i64 (findE es s).1.code.pos, .int .i64 0, .int .i64 (findE es s).1.data.perm, .int .i64 (findE es s).1.data.base, .int .i64 (findE es s).1.data.len, .int .i64 (findE es s).1.data.pos, .int .i64 0] 119)))
            have HR8 := Lib.hid (argRegs_len (l := l) (by omega))
            have hc := fun o => (Box.new w4 119 #[.string (findE es s).1.name, .int .i64 (findE es s).1.code.perm, .int .i64 (findE es s).1.code.base, .int .i64 (findE es s).1.code.len, .int .i64 (findE es s).1.code.pos, .int .i64 0, .int .i64 (findE es s).1.data.perm, .int .i64 (findE es s).1.data.base, .int .i64 (findE es s).1.data.len, .int .i64 (findE es s).1.data.pos, .int .i64 0] rfl).cell o
            have hz4 := HY.out.lt
            (refine wp_region_held_drew (S := fun w' => ∀ o, w'.cell? ⟨w4.heap.size, o, none⟩ = #[.string (findE es s).1.name, .int .i64 (findE es s).1.code.perm, .int .i64 (findE es s).1.code.base, .int .i64 (findE es s).1.code.len, .int .i64 (findE es s).1.code.pos, .int .i64 0, .int .i64 (findE es s).1.data.perm, .int .i64 (findE es s).1.data.base, .int .i64 (findE es s).1.data.len, .int .i64 (findE es s).1.data.pos, .int .i64 0][o]?) (by kernel_rfl) ?_ (fun hHeld => ?_))
            exact hc
            (refine takeH (i := 0) rfl (by kernel_rfl) (by kernel_rfl) (by kernel_rfl) (fun _ _ _ _ h => h) (by rfl) (by assumption) ?_; refine' ⟨_, ?_, ?_⟩; rotate_left; (focus (intro w hSw; (try dsimp only at hSw); go_simp; first | done | with_reducible rfl)); (try simp only [Act.put, List.setIfInBounds_toArray, List.set_cons_zero, List.set_cons_succ]))
            (refine takeH (i := 1) rfl (by kernel_rfl) (by kernel_rfl) (by kernel_rfl) (fun _ _ _ _ h => h) (by rfl) (by assumption) ?_; refine' ⟨_, ?_, ?_⟩; rotate_left; (focus (intro w hSw; (try dsimp only at hSw); go_simp; first | done | with_reducible rfl)); (try simp only [Act.put, List.setIfInBounds_toArray, List.set_cons_zero, List.set_cons_succ]))
            (refine takeH (i := 2) rfl (by kernel_rfl) (by kernel_rfl) (by kernel_rfl) (fun _ _ _ _ h => h) (by rfl) (by assumption) ?_; refine' ⟨_, ?_, ?_⟩; rotate_left; (focus (intro w hSw; (try dsimp only at hSw); go_simp; first | done | with_reducible rfl)); (try simp only [Act.put, List.setIfInBounds_toArray, List.set_cons_zero, List.set_cons_succ]))
            (refine takeH (i := 3) rfl (by kernel_rfl) (by kernel_rfl) (by kernel_rfl) (fun _ _ _ _ h => h) (by rfl) (by assumption) ?_; refine' ⟨_, ?_, ?_⟩; rotate_left; (focus (intro w hSw; (try dsimp only at hSw); go_simp; first | done | with_reducible rfl)); (try simp only [Act.put, List.setIfInBounds_toArray, List.set_cons_zero, List.set_cons_succ]))
            (refine takeH (i := 4) rfl (by kernel_rfl) (by kernel_rfl) (by kernel_rfl) (fun _ _ _ _ h => h) (by rfl) (by assumption) ?_; refine' ⟨_, ?_, ?_⟩; rotate_left; (focus (intro w hSw; (try dsimp only at hSw); go_simp; first | done | with_reducible rfl)); (try simp only [Act.put, List.setIfInBounds_toArray, List.set_cons_zero, List.set_cons_succ]))
            (refine takeH (i := 5) rfl (by kernel_rfl) (by kernel_rfl) (by kernel_rfl) (fun _ _ _ _ h => h) (by rfl) (by assumption) ?_; refine' ⟨_, ?_, ?_⟩; rotate_left; (focus (intro w hSw; (try dsimp only at hSw); go_simp; first | done | with_reducible rfl)); (try simp only [Act.put, List.setIfInBounds_toArray, List.set_cons_zero, List.set_cons_succ]))
            (refine takeH (i := 7) rfl (by kernel_rfl) (by kernel_rfl) (by kernel_rfl) (fun _ _ _ _ h => h) (by rfl) (by assumption) ?_; refine' ⟨_, ?_, ?_⟩; rotate_left; (focus (intro w hSw; (try dsimp only at hSw); go_simp; first | done | with_reducible rfl)); (try simp only [Act.put, List.setIfInBounds_toArray, List.set_cons_zero, List.set_cons_succ]))
            refine oneH (i := 6) (by kernel_rfl) rfl (fun K hK => ?_)
            refine step_store_part rfl _ _ _ rfl HB5.out.drew rfl rfl (machL_putCode (k' := { (findE es s).1.code with tag := 0 }) HR8.out) (show 56 + 5 ≤ (machL _ _ _ _ _).toArray.size by rw [List.size_toArray, machL_length HR8.out]; decide) (by kernel_rfl) (by simp [Value.oneCell']) ?_
            intro w6 hb6 hg6 hz6
            have hS6 : ∀ o, w6.cell? ⟨w4.heap.size, o, none⟩ = #[.string (findE es s).1.name, .int .i64 (findE es s).1.code.perm, .int .i64 (findE es s).1.code.base, .int .i64 (findE es s).1.code.len, .int .i64 (findE es s).1.code.pos, .int .i64 0, .int .i64 (findE es s).1.data.perm, .int .i64 (findE es s).1.data.base, .int .i64 (findE es s).1.data.len, .int .i64 (findE es s).1.data.pos, .int .i64 0][o]? := fun o => (grown_cell hg6 (p := ⟨w4.heap.size, o, none⟩) (show w4.heap.size < _ by ((try simp only [World.size_alloc, World.size_setCell, World.size_drew]) <;> omega)) (fun h => by injection h with h; dsimp only at h; omega)).trans (hc o)
            have HB6 := Lib.hid hb6
            clear hb6
            refine hK.out _ _ hS6 (fun hHeld => ?_)
            clear hK K
            simp only [Act.put, List.setIfInBounds_toArray, List.set_cons_zero, List.set_cons_succ]
            (refine takeH (i := 8) rfl (by kernel_rfl) (by kernel_rfl) (by kernel_rfl) (fun _ _ _ _ h => h) (by rfl) (by assumption) ?_; refine' ⟨_, ?_, ?_⟩; rotate_left; (focus (intro w hSw; (try dsimp only at hSw); go_simp; first | done | with_reducible rfl)); (try simp only [Act.put, List.setIfInBounds_toArray, List.set_cons_zero, List.set_cons_succ]))
            refine oneH (i := 9) (by kernel_rfl) rfl (fun K hK => ?_)
            refine step_store_part rfl _ _ _ rfl HB6.out rfl rfl (machL_putReg (i := 7) HR8.out (by decide) ⟨true, 0, { (findE es s).1.data with tag := 0 }⟩) (show 49 + 7 ≤ (machL _ _ _ _ _).toArray.size by rw [List.size_toArray, machL_length HR8.out]; decide) (by kernel_rfl) (by simp [Value.oneCell']) ?_
            intro w7 hb7 hg7 hz7
            have hS7 : ∀ o, w7.cell? ⟨w4.heap.size, o, none⟩ = #[.string (findE es s).1.name, .int .i64 (findE es s).1.code.perm, .int .i64 (findE es s).1.code.base, .int .i64 (findE es s).1.code.len, .int .i64 (findE es s).1.code.pos, .int .i64 0, .int .i64 (findE es s).1.data.perm, .int .i64 (findE es s).1.data.base, .int .i64 (findE es s).1.data.len, .int .i64 (findE es s).1.data.pos, .int .i64 0][o]? := fun o => (grown_cell hg7 (p := ⟨w4.heap.size, o, none⟩) (show w4.heap.size < _ by rw [hz6]; ((try simp only [World.size_alloc, World.size_setCell, World.size_drew]) <;> omega)) (fun h => by injection h with h; dsimp only at h; omega)).trans (hS6 o)
            have HB7 := Lib.hid hb7
            clear hb7
            refine hK.out _ _ hS7 (fun hHeld => ?_)
            clear hK K
            refine wpAnyH_done (by kernel_rfl) ?_ _
            simp only [Act.put, List.setIfInBounds_toArray, List.set_cons_zero, List.set_cons_succ]
            have HRB := Lib.hid (((HK4.out.alloc (.cells #[.string (findE es s).1.name, .int .i64 (findE es s).1.code.perm, .int .i64 (findE es s).1.code.base, .int .i64 (findE es s).1.code.len, .int .i64 (findE es s).1.code.pos, .int .i64 0, .int .i64 (findE es s).1.data.perm, .int .i64 (findE es s).1.data.base, .int .i64 (findE es s).1.data.len, .int .i64 (findE es s).1.data.pos, .int .i64 0] 119)).drew.grown' hg6 (fun k hk => by cases hk; exact hz2)).grown' hg7 (fun k hk => by cases hk; exact hz2))
            have HLQ := Lib.hid ((HLL.out.below (w' := w7) (((((Below.refl _ w4).alloc (Nat.le_of_lt hz4) _).drew).grown hg6 (by ((try simp only [World.size_alloc, World.size_setCell, World.size_drew]) <;> omega)) (fun k hk => by cases hk; exact Nat.le_refl _)).grown hg7 (by rw [hz6]; ((try simp only [World.size_alloc, World.size_setCell, World.size_drew]) <;> omega)) (fun k hk => by cases hk; exact Nat.le_refl _))))
            have hR8' : ((argRegs l).set 7 ⟨true, 0, { (findE es s).1.data with tag := 0 }⟩).length = 8 := by rw [List.length_set]; exact HR8.out
            have HR9 := Lib.hid hR8'
            clear hR8' hg6 hg7 hS6 hS7 hHeld HB6 HB5 HK4 HLL hc
            go_wp2_with (first | (refine wpList_load_mach rfl (.tmp 9) rfl HB7.out rfl HR9.out ?_) | (refine wpList_store_mach rfl (.tmp 6) (.tmp 67) rfl (HRB.out.box 1 _ rfl) rfl rfl HR9.out zeroM_size rfl rfl rfl ?_; intro w8 hbw8 hgw8 hzw8) | fail)
            (try simp only [Exit.inBlock, Exit.then])
            refine bodyPost_ret (results_ct rfl rfl hbw8 Tryz.underlying31 rfl (info_mach HR9.out)) rfl ?_
            rw [HE.out]
            exact ⟨_, rfl, ⟨⟨A2, none, none, k2, 0, 0, rfl, HC2.out.1, HC2.out.2, Nat.le_refl _, Nat.zero_le _, Nat.le_refl _, Nat.zero_le _, (HLQ.out.off hgw8 (by have := HB7.out.lt; omega) (fun b o hA => by have := HU2.out b o hA; omega)).more (by have := HB7.out.lt; omega), Lies.nil_, Lies.nil_⟩, HR9.out⟩, HRB.out.below.grown hgw8 HRB.out.below.size (fun k hk => by injection hk with hk; omega)⟩
  · rw [enterF_img h0]
    go_enter Tryz.func40, Tryz.ntmps40
    go_wp2_with (first | (go_at_call 70; (with_reducible refine (c_enter_Check A E Ap c e np cp xs es _ ((HL.out.below bel).more (by ((try simp only [World.size_alloc, World.size_setCell, World.size_drew]) <;> omega))) ((HM.out.below bel).more (by ((try simp only [World.size_alloc, World.size_setCell, World.size_drew]) <;> omega)))).mono ?_); intro e w1 hr; obtain ⟨rfl, hb, hc, hf, hz⟩ := hr.use; clear hr hc hf; have hK := KeptB.on (imgB _ w) hb; clear hb hz; have HK := Lib.hid hK; have hbw := hK.below; have HB0 := Lib.hid (hK.box 0 _ rfl); have c0 := fun o => HB0.out.cell o; have f0 := fun o => HB0.out.frozen o; have z0 := HB0.out.lt; (try dsimp only at c0); have HB1 := Lib.hid (hK.box 1 _ rfl); have c1 := fun o => HB1.out.cell o; have f1 := fun o => HB1.out.frozen o; have z1 := HB1.out.lt; (try dsimp only at c1); (try simp only [Nat.add_zero] at c0 f0 z0); clear hK) | (refine wpList_store_box rfl 31 (.tmp 6) (.tmp 18) rfl (HK.out.box 1 _ rfl) rfl rfl (by kernel_rfl) rfl (by simp [Value.oneCell']) ?_; intro w2 hbw2 hgw2 hzw2) | fail)
    have hbw3 : Box w2 (w.heap.size + 1) 31 zeroM := hbw2
    ((try simp only [Exit.inBlock, Exit.then]); refine bodyPost_ret (results_ct rfl rfl hbw3 Tryz.underlying31 rfl (by kernel_rfl)) rfl ?_)
    exact ⟨_, rfl, MachV.zero w2 _, hbw.grown hgw2 (by omega) (fun k hk => by cases hk; omega)⟩
end Go.Proofs.YthmpnnfejghhfaaGreatDoor
namespace Go.Proofs.YthmpnnfejghhfaaGreatDoor
open Go.RowKit
set_option linter.unusedVariables false
set_option linter.unusedSimpArgs false
set_option maxRecDepth 100000
theorem place_ne1 {n : Nat} {k : Key} {off p : Int} (h : keyOk k = true) : (place n k off p).2 ≠ 1 := by
  unfold place
  rw [if_pos h]
  repeat' split
  all_goals ((try dsimp only); decide)
theorem plainE_ne1 {k : Key} (h : keyOk k = true) : plainE k ≠ 1 := by
  unfold plainE
  rw [if_pos h]
  split <;> ((try dsimp only); decide)
theorem mayE_ne1 (k : Key) (p : Int) : mayE k p ≠ 1 := by
  unfold mayE
  repeat' split
  all_goals ((try dsimp only); decide)
theorem bothE_ok {k b : Key} (h : keyOk k = true) (h2 : keyOk b = true) : bothE k b = 0 := by
  unfold bothE; rw [if_pos h, keyE_ok h2]
theorem keyMove_ne1 {k : Key} (n : Int) (h : keyOk k = true) : (keyMove k n).2 ≠ 1 := by
  unfold keyMove
  have := plainE_ne1 h
  repeat' split
  all_goals first | ((try dsimp only); decide) | exact this
theorem keyNarrow_ne1 {k : Key} (n : Int) (h : keyOk k = true) : (keyNarrow k n).2 ≠ 1 := by
  unfold keyNarrow
  have := plainE_ne1 h
  repeat' split
  all_goals first | ((try dsimp only); decide) | exact this
theorem keyDrop_ne1 {k : Key} (n : Int) (h : keyOk k = true) : (keyDrop k n).2 ≠ 1 := by
  unfold keyDrop
  have := plainE_ne1 h
  repeat' split
  all_goals first | ((try dsimp only); decide) | exact this
theorem keySeal_ne1 {k b : Key} (h : keyOk k = true) (h2 : keyOk b = true) : (keySeal k b).2 ≠ 1 := by
  unfold keySeal
  have h3 := plainE_ne1 h
  have h4 := mayE_ne1 b 32
  rw [if_pos (bothE_ok h h2)]
  repeat' split
  all_goals first | ((try dsimp only); decide) | exact h3 | exact h4
theorem keyOpen_ne1 {k b : Key} (h : keyOk k = true) (h2 : keyOk b = true) : (keyOpen k b).2 ≠ 1 := by
  unfold keyOpen
  have h4 := mayE_ne1 b 64
  rw [if_pos (bothE_ok h h2)]
  repeat' split
  all_goals first | ((try dsimp only); decide) | exact h4
theorem getF_ne1 {xs : List Val} {k : Key} (off : Int) (h : keyOk k = true) : (getF xs k off).2 ≠ 1 := by
  unfold getF
  have h3 := place_ne1 (n := xs.length) (off := off) (p := 1) h
  repeat' split
  all_goals first | ((try dsimp only); decide) | exact h3
theorem putF_ne1 {xs : List Val} {k : Key} (off : Int) (v : Val) (h : keyOk k = true) : (putF xs k off v).2 ≠ 1 := by
  unfold putF
  have h3 := place_ne1 (n := xs.length) (off := off) (p := 2) h
  repeat' split
  all_goals first | ((try dsimp only); decide) | exact h3
theorem retF_ne1 {m : Mach} {r : Int} {x : Key × Int} (h : x.2 ≠ 1) : (retF m r x).2 ≠ 1 := by
  unfold retF
  split
  · ((try dsimp only); decide)
  · exact h
theorem valE_ok {v : Val} (h : valE v = 0) (hi : v.is = true) : keyOk v.key = true := by
  unfold valE at h
  rw [if_pos hi] at h
  split at h
  · assumption
  · cases h
theorem oneF_ne1 {m : Mach} (hM : MachOk m) : (oneF m).2 ≠ 1 := by
  have hg : ∀ d, (goF m d).2 ≠ 1 := fun d => by unfold goF; split <;> ((try dsimp only); decide)
  have hk : ∀ r, ¬ (regV m r).is = false → keyOk (regV m r).key = true := fun r h => valE_ok (hM.reg r) (by simpa using h)
  have hb : ∀ i : Inst, (byKeyF i m).2 ≠ 1 := fun i => by
    unfold byKeyF
    dsimp only
    split
    · ((try dsimp only); decide)
    · rename_i h0
      have h1 := hk _ h0
      split
      · split
        · ((try dsimp only); decide)
        · exact getF_ne1 _ h1
      · split
        · split
          · ((try dsimp only); decide)
          · exact putF_ne1 _ _ h1
        · split
          · exact retF_ne1 (keyDrop_ne1 _ h1)
          · split
            · split
              · ((try dsimp only); decide)
              · refine retF_ne1 ?_
                split
                · exact keyMove_ne1 _ h1
                · exact keyNarrow_ne1 _ h1
            · split
              · split
                · ((try dsimp only); decide)
                · rename_i h2
                  have h3 := hk _ h2
                  refine retF_ne1 ?_
                  split
                  · exact keySeal_ne1 h1 h3
                  · exact keyOpen_ne1 h1 h3
              · ((try dsimp only); decide)
  have hp : ∀ i : Inst, (plainF i m).2 ≠ 1 := fun i => by
    unfold plainF
    repeat' split
    all_goals first | ((try dsimp only); decide) | exact hb i | (unfold dve; split <;> ((try dsimp only); decide))
  have hc : ∀ a b : Key, (callF m a b).2 ≠ 1 := fun a b => by
    unfold callF
    repeat' split
    all_goals ((try dsimp only); decide)
  have hd : ∀ i : Inst, (doF i m).2 ≠ 1 := fun i => by
    unfold doF
    split
    · ((try dsimp only); decide)
    split
    · exact hg _
    split
    · split
      · ((try dsimp only); decide)
      · exact hg _
    split
    · split
      · ((try dsimp only); decide)
      · exact hc _ _
    split
    · unfold backF
      split <;> ((try dsimp only); decide)
    split
    · ((try dsimp only); decide)
    · exact hp i
  unfold oneF
  split
  · exact hd _
  · rename_i h
    unfold fetchF
    dsimp only
    split
    · exact place_ne1 hM.code
    · split
      · ((try dsimp only); decide)
      · unfold readF
        split <;> ((try dsimp only); decide)
theorem runN_ne1 {m : Mach} (hM : MachOk m) : ∀ f : Nat, (runN m f).2 ≠ 1
  | 0 => by
    unfold runN
    show (15 : Int) ≠ 1
    decide
  | f + 1 => by
    unfold runN
    split
    · rename_i h; exact runN_ne1 (oneF_ok hM h) f
    · exact oneF_ne1 hM
theorem findE_in {es : List Entry} {s : ByteArray} (h : (findE es s).2 = true) : (findE es s).1 ∈ es := by
  unfold findE at h ⊢
  split
  · rename_i x hx
    rw [hx] at h
    dsimp only at h
    split
    · rename_i h1; rw [if_pos h1] at h; cases h
    · exact List.mem_of_getElem? hx
  · rename_i hx
    rw [hx] at h; cases h
theorem keyOk_open {k : Key} (h : keyOk k = true) : keyOk { k with tag := 0 } = true := by
  rw [keyOk_iff] at h ⊢
  obtain ⟨h1, h2, h3, h4, h5⟩ := h
  exact ⟨h1, h2, h3, h4, by simp⟩
theorem enterF_mach {xs : List Val} {es : List Entry} {s : ByteArray} {l : List Int} (h : (enterF xs es s l).2 = 0) : MachOk (enterF xs es s l).1 := by
  cases h0 : (imgE xs es != 0)
  · by_cases h1 : 7 < l.length
    · rw [enterF_large h0 h1] at h; cases h
    · cases h2 : (firstE numE l != 0)
      · cases h3 : (findE es s).2
        · rw [enterF_none h0 h1 h2 h3] at h; cases h
        · rw [enterF_is h0 h1 h2 h3]
          unfold imgE at h0
          split at h0
          · rename_i hm; rw [h0] at hm; cases hm
          rename_i hm
          split at h0
          · cases h0
          have he := firstE_all h0 _ (findE_in h3)
          unfold entryE at he
          split at he
          · rename_i hc
            have hd := keyE_eq he
            have hmm : (memE xs != 0) = false := by simpa using hm
            refine ⟨fun v hv => ?_, keyOk_open hc, memE_len hmm, ?_, Nat.zero_le _, (fun f hf => by cases hf), Nat.zero_le _, (fun n hn => by cases hn)⟩
            · rcases List.mem_or_eq_of_mem_set hv with hv | rfl
              · unfold argRegs at hv
                rcases List.mem_append.1 hv with hv | hv
                · obtain ⟨n, hn, rfl⟩ := List.mem_map.1 hv
                  have := firstE_all h2 n hn
                  unfold numE at this
                  split at this
                  · rename_i hw
                    have hw' : n = wr n := by simpa using hw
                    have hr : inR n (-2147483648) 2147483647 = true := by rw [inR_iff]; unfold wr at hw'; omega
                    simp [valE, hr]
                  · cases this
                · obtain ⟨-, rfl⟩ := List.mem_replicate.1 hv
                  decide
              · simp [valE, keyOk_open hd]
            · unfold memE at hmm
              split at hmm
              · cases hmm
              · exact firstE_all hmm
          · cases he
      · rw [enterF_num h0 h1 h2] at h; cases h
  · rw [enterF_img h0] at h
    dsimp only at h
    rw [h] at h0; cases h0
structure Done where
  e : Int
  n : Int
  out : List Int
  fuel : Int
def doJob (xs : List Val) (es : List Entry) (s : ByteArray) (l : List Int) (fuel : Int) : Done × List Val :=
  let p := enterF xs es s l
  if p.2 ≠ 0 then (⟨p.2, 0, [], 0⟩, xs)
  else if (runF p.1 fuel).2.2.2 = false then (⟨(runF p.1 fuel).2.2.1, 0, [], 0⟩, xs)
  else (⟨if (runF p.1 fuel).2.2.1 = 16 then 0 else (runF p.1 fuel).2.2.1, if (regV (runF p.1 fuel).1 0).is = true then 0 else (regV (runF p.1 fuel).1 0).n, (runF p.1 fuel).1.out, (runF p.1 fuel).2.1.length⟩, (runF p.1 fuel).1.mem)
theorem runF_ran {m : Mach} (hM : MachOk m) (fuel : Int) : (runF m fuel).2.2.2 = false ↔ (runF m fuel).2.2.1 = 1 := by
  unfold runF
  split
  · simp
  · rw [if_neg (by rw [hM.zero]; simp)]
    have := runN_ne1 hM fuel.toNat
    simp [this]
theorem keyOk_wf {k : Key} (h : keyOk k = true) : k.Wf := by
  obtain ⟨h1, h2, h3, h4, h5⟩ := keyOk_iff.1 h
  exact ⟨by unfold i64; omega, by unfold i64; omega, by unfold i64; omega, by unfold i64; omega, by unfold i64; omega⟩
theorem valE_wf {v : Val} (h : valE v = 0) : v.Wf := by
  cases hi : v.is
  · obtain ⟨h1, h2⟩ := valE_not h hi
    refine ⟨by unfold i64; omega, ?_⟩
    rw [h2]; exact keyOk_wf (by decide)
  · obtain ⟨h1, h2⟩ := valE_is h hi
    exact ⟨by rw [h2]; unfold i64; decide, keyOk_wf h1⟩
theorem MachOk.wf {m : Mach} (h : MachOk m) : m.Wf :=
  ⟨fun i v hv => valE_wf (h.regs v (List.mem_of_getElem? hv)), keyOk_wf h.code, fun i v hv => valE_wf (h.mem v (List.mem_of_getElem? hv)), fun i f hf => ⟨keyOk_wf (h.stack f (List.mem_of_getElem? hf)).1, valE_wf (h.stack f (List.mem_of_getElem? hf)).2⟩,
    fun i n hn => by have := h.out n (List.mem_of_getElem? hn); unfold wr at this; unfold i64; omega⟩
end Go.Proofs.YthmpnnfejghhfaaGreatDoor
namespace Go.Proofs.YthmpnnfejghhfaaGreatDoor
open Go.RowKit
set_option linter.unusedVariables false
set_option linter.unusedSimpArgs false
set_option maxRecDepth 100000
theorem c60of {w : World} {g : Nat} {t : TypeId} {regs : List Val} {k : Key} {a b c : Value} (h : Box w g t (machL regs k a b c).toArray) (hl : regs.length = 8) : (machL regs k a b c).toArray.size = 64 := by rw [List.size_toArray, machL_length hl]
set_option maxHeartbeats 4000000 in
theorem r_Enter (A E Ap O : Option Addr) (c e np cp o : Nat) (xs : List Val) (es : List Entry) (s : ByteArray) (l : List Int) (w : World) (he : es.length ≤ e) (he' : e ≤ maxLen) (ho : l.length ≤ maxLen)
    (hwf : ∀ (i : Nat) v, xs[i]? = some v → Val.Wf v) (hwe : ∀ (i : Nat) v, es[i]? = some v → Entry.Wf v) (hL : Lies encV 7 w w.heap.size A xs) (hM : Lies encE 11 w w.heap.size E es) (hN : Lies encI 1 w w.heap.size O l) :
    Calls Tryz.prog 42 #[.agg #[.slice A xs.length c, .slice Ap np cp, .slice E es.length e], .string s, .slice O l.length o] w (RetMach w (enterF xs es s l).1 fun v => .tuple #[v, .int .i64 (enterF xs es s l).2]) := by
  have HL := Lib.hid hL
  have HM := Lib.hid hM
  have HN := Lib.hid hN
  have HW := Lib.hid hwf
  have HWE := Lib.hid hwe
  clear hL hM hN hwf hwe
  cases h0 : (imgE xs es != 0)
  · by_cases h1 : 7 < l.length
    · rw [enterF_large h0 h1]
      go_enter Tryz.func42, Tryz.ntmps42
      go_wp2_with (first | (go_at_call 72; (with_reducible refine (r_EnterCheck A E Ap c e np cp xs es _ HW.out HWE.out ((HL.out.below bel).more (by ((try simp only [World.size_alloc, World.size_setCell, World.size_drew]) <;> omega))) ((HM.out.below bel).more (by ((try simp only [World.size_alloc, World.size_setCell, World.size_drew]) <;> omega)))).mono ?_); intro e w1 hr; obtain ⟨rfl, hb, hc, hf, hz⟩ := hr.use; clear hr hc hf; have hK := KeptB.on (imgB _ w) hb; clear hb hz; have HK := Lib.hid hK; have hbw := hK.below; have HB0 := Lib.hid (hK.box 0 _ rfl); have c0 := fun o => HB0.out.cell o; have f0 := fun o => HB0.out.frozen o; have z0 := HB0.out.lt; (try dsimp only at c0); have HB1 := Lib.hid (hK.box 1 _ rfl); have c1 := fun o => HB1.out.cell o; have f1 := fun o => HB1.out.frozen o; have z1 := HB1.out.lt; (try dsimp only at c1); (try simp only [Nat.add_zero] at c0 f0 z0); clear hK) | (refine wpList_store_box rfl 31 (.tmp 6) (.tmp 23) rfl (HK.out.box 1 _ rfl) rfl rfl (by kernel_rfl) rfl (by simp [Value.oneCell']) ?_; intro w2 hbw2 hgw2 hzw2) | fail)
      have hbw3 : Box w2 (w.heap.size + 1) 31 zeroM := hbw2
      ((try simp only [Exit.inBlock, Exit.then]); refine bodyPost_ret (results_ct rfl rfl hbw3 Tryz.underlying31 rfl (by kernel_rfl)) rfl ?_)
      exact ⟨_, rfl, MachV.zero w2 _, hbw.grown hgw2 (by omega) (fun k hk => by cases hk; omega)⟩
    · have h1' : l.length ≤ 7 := by omega
      go_enter Tryz.func42, Tryz.ntmps42
      have hx1 := Lib.hid (imgE_max h0)
      have hx2 := Lib.hid (imgE_big h0)
      go_wp2_with (first | (go_at_call 72; (with_reducible refine (r_EnterCheck A E Ap c e np cp xs es _ HW.out HWE.out ((HL.out.below bel).more (by ((try simp only [World.size_alloc, World.size_setCell, World.size_drew]) <;> omega))) ((HM.out.below bel).more (by ((try simp only [World.size_alloc, World.size_setCell, World.size_drew]) <;> omega)))).mono ?_); intro e w1 hr; obtain ⟨rfl, hb, hc, hf, hz⟩ := hr.use; clear hr hc hf; have hK := KeptB.on (imgB _ w) hb; clear hb hz; have HK := Lib.hid hK; have hbw := hK.below; have HB0 := Lib.hid (hK.box 0 _ rfl); have c0 := fun o => HB0.out.cell o; have f0 := fun o => HB0.out.frozen o; have z0 := HB0.out.lt; (try dsimp only at c0); have HB1 := Lib.hid (hK.box 1 _ rfl); have c1 := fun o => HB1.out.cell o; have f1 := fun o => HB1.out.frozen o; have z1 := HB1.out.lt; (try dsimp only at c1); (try simp only [Nat.add_zero] at c0 f0 z0); clear hK) | fail)
      have hz2 : w.heap.size + 2 ≤ w1.heap.size := (by have := HK.out.size; simp only [List.length_cons, List.length_nil] at this; omega)
      have HB := Lib.hid (HK.out)
      have HB3 := Lib.hid (show Box (w1.alloc (.cells zeroM 31)) w1.heap.size 31 zeroM from Box.new _ _ _ rfl)
      have E0 := Lib.hid (show firstE numE l = firstFrom numE l 0 from rfl)
      clear hbw HB0 c0 f0 z0 HB1 c1 f1 z1 HK
      go_loopw [10, 11, 26] (fun _ _ v wr => ∃ k : Nat, v = .int .i64 k ∧ k ≤ l.length ∧ firstE numE l = firstFrom numE l k ∧ KeptB w [(#[.slice A xs.length c, .slice Ap np cp, .slice E es.length e], 49), (zeroM, 31)] wr ∧ Box wr w1.heap.size 31 (machL (argRegs (l.take k)) Key.zero nilS nilS nilS).toArray) (fun _ _ v _ => (l.length - intOf v).toNat)
      case atStart => exact ⟨0, rfl, by omega, E0.out, HB.out.alloc _, HB3.out⟩
      case round =>
        obtain ⟨k, rfl, hk, he2, hkb, hbox⟩ := hrel
        have HF := Lib.hid he2
        have HBB := Lib.hid hkb
        have HBX := Lib.hid hbox
        have hbw := hkb.below
        have hz := hbox.lt
        clear he2 hkb hbox E0 HB HB3
        rcases Nat.lt_or_ge k l.length with hlt | hge
        · have hk8 : k < 8 := by omega
          have hlen8 : (argRegs (l.take k)).length = 8 := argRegs_len (by rw [List.length_take]; omega)
          obtain ⟨b, oo, n, hOA, hb, hp, q0⟩ := (HN.out.below hbw).cellsI hlt
          subst hOA
          have HP := Lib.hid hp
          have HLEN := Lib.hid hlen8
          have HI := inR_wr n
          clear hp hlen8
          cases h3 : (n != Go.Proofs.YthmpnnfejghhfaaGreatDoor.wr n)
          · have H := Lib.hid (HF.out.trans (firstFrom_ok HP.out (numE_ok h3)))
            rw [h3] at HI
            go_wp2_with (first | (go_at_call 55; (with_reducible refine (r_IsNumber _ _).mono ?_); rintro e w1 ⟨rfl, rfl⟩) | (refine wpList_store_part rfl _ _ _ rfl HBX.out rfl rfl (machL_putReg (i := k) HLEN.out hk8 ⟨false, n, Key.zero⟩) (show k * 7 + 7 ≤ (machL _ _ _ _ _).toArray.size by rw [List.size_toArray, machL_length HLEN.out]; omega) (by kernel_rfl) (by simp [Value.oneCell']) ?_; intro w4 hbw4 hgw4 hzw4) | fail)
            go_roundw
            case rel =>
              rw [argRegs_step HP.out hk8] at hbw4
              exact ⟨k + 1, by go_num, by omega, H.out, HBB.out.grown' hgw4 (fun k hk => by cases hk; exact hz2), hbw4⟩
            case measure => simp [intOf]; omega
          · have H := Lib.hid (show (firstE numE l != 0) = true by rw [HF.out.trans (firstFrom_no HP.out (numE_no h3))]; exact numE_no h3)
            rw [h3] at HI
            go_wp2_with (first | (go_at_call 55; (with_reducible refine (r_IsNumber _ _).mono ?_); rintro e w1 ⟨rfl, rfl⟩) | (refine wpList_store_box rfl 31 (.tmp 6) (.tmp 34) rfl (HBB.out.box 1 _ rfl) rfl rfl (by kernel_rfl) rfl (by simp [Value.oneCell']) ?_; intro w4 hbw4 hgw4 hzw4) | fail)
            have hbw5 : Box w4 (w.heap.size + 1) 31 zeroM := hbw4
            ((try simp only [Exit.inBlock, Exit.then]); refine bodyPost_ret (results_ct rfl rfl hbw5 Tryz.underlying31 rfl (by kernel_rfl)) rfl ?_)
            rw [enterF_num h0 h1 H.out]
            exact ⟨_, rfl, MachV.zero w4 _, hbw.grown hgw4 (by omega) (fun k hk => by cases hk; omega)⟩
        · have H2 := Lib.hid (show (firstE numE l != 0) = false by rw [HF.out.trans (firstFrom_end hge)]; rfl)
          have hk' : k = l.length := by omega
          have HBY := Lib.hid (show Box wr w1.heap.size 31 (machL (argRegs l) Key.zero nilS nilS nilS).toArray from by have := HBX.out; rwa [hk', List.take_length] at this)
          cases h3 : (findE es s).2
          · have HE := Lib.hid (enterF_none (s := s) h0 h1 H2.out h3)
            have hK := HBB.out
            (skip; have HK := Lib.hid hK; have hbw := hK.below; have HB0 := Lib.hid (hK.box 0 _ rfl); have c0 := fun o => HB0.out.cell o; have f0 := fun o => HB0.out.frozen o; have z0 := HB0.out.lt; (try dsimp only at c0); have HB1 := Lib.hid (hK.box 1 _ rfl); have c1 := fun o => HB1.out.cell o; have f1 := fun o => HB1.out.frozen o; have z1 := HB1.out.lt; (try dsimp only at c1); (try simp only [Nat.add_zero] at c0 f0 z0); clear hK)
            go_wp2_with (first | (go_at_call 73; (with_reducible refine (r_Find E e _ _ es s _ he he' ((HM.out.below HBB.out.below).more HBB.out.below.size)).mono ?_); intro e w4 hr; obtain ⟨rfl, hb, hc, hf, hz⟩ := hr.use; clear hr hc hf; have hK := KeptB.on (HBB.out) hb; clear hb hz; have HK := Lib.hid hK; have hbw := hK.below; have HB0 := Lib.hid (hK.box 0 _ rfl); have c0 := fun o => HB0.out.cell o; have f0 := fun o => HB0.out.frozen o; have z0 := HB0.out.lt; (try dsimp only at c0); have HB1 := Lib.hid (hK.box 1 _ rfl); have c1 := fun o => HB1.out.cell o; have f1 := fun o => HB1.out.frozen o; have z1 := HB1.out.lt; (try dsimp only at c1); (try simp only [Nat.add_zero] at c0 f0 z0); clear hK) | (refine wpList_store_box rfl 31 (.tmp 6) (.tmp 49) rfl ((HK.out.alloc _).box 1 _ rfl) rfl rfl (by kernel_rfl) rfl (by simp [Value.oneCell']) ?_; intro w5 hbw5 hgw5 hzw5) | fail)
            have hbw6 : Box w5 (w.heap.size + 1) 31 zeroM := hbw5
            ((try simp only [Exit.inBlock, Exit.then]); refine bodyPost_ret (results_ct rfl rfl hbw6 Tryz.underlying31 rfl (by kernel_rfl)) rfl ?_)
            rw [HE.out]
            exact ⟨_, rfl, MachV.zero w5 _, (hbw.alloc (by omega) _).grown hgw5 (by ((try simp only [World.size_alloc, World.size_setCell, World.size_drew]) <;> omega)) (fun k hk => by cases hk; omega)⟩
          · have HE := Lib.hid (enterF_is (s := s) h0 h1 H2.out h3)
            have hK := HBB.out
            (skip; have HK := Lib.hid hK; have hbw := hK.below; have HB0 := Lib.hid (hK.box 0 _ rfl); have c0 := fun o => HB0.out.cell o; have f0 := fun o => HB0.out.frozen o; have z0 := HB0.out.lt; (try dsimp only at c0); have HB1 := Lib.hid (hK.box 1 _ rfl); have c1 := fun o => HB1.out.cell o; have f1 := fun o => HB1.out.frozen o; have z1 := HB1.out.lt; (try dsimp only at c1); (try simp only [Nat.add_zero] at c0 f0 z0); clear hK)
            have HR8 := Lib.hid (argRegs_len (l := l) (by omega))
            have HR7 := Lib.hid (show ((argRegs l).set 7 ⟨true, 0, (findE es s).1.data⟩).length = 8 by rw [List.length_set]; exact HR8.out)
            have HR9 := Lib.hid (show ((argRegs l).set 7 ⟨true, 0, { (findE es s).1.data with tag := 0 }⟩).length = 8 by rw [List.length_set]; exact HR8.out)
            have HS7 := Lib.hid (show (machL ((argRegs l).set 7 ⟨true, 0, (findE es s).1.data⟩) { (findE es s).1.code with tag := 0 } nilS nilS nilS).set 55 (.int .i64 0) = machL ((argRegs l).set 7 ⟨true, 0, { (findE es s).1.data with tag := 0 }⟩) { (findE es s).1.code with tag := 0 } nilS nilS nilS from by
              have h := machL_setReg (k := { (findE es s).1.code with tag := 0 }) (a := nilS) (b := nilS) (c := nilS) HR7.out (i := 7) (j := 6) (x := ⟨true, 0, (findE es s).1.data⟩) (y := ⟨true, 0, { (findE es s).1.data with tag := 0 }⟩) (u := .int .i64 0) (List.getElem?_set_self (by rw [HR8.out]; decide)) (by decide) rfl
              rw [List.set_set] at h
              exact h)
            clear HK HB0 HB1 c1 f0 f1 z1
            go_wp2_with (first
              | ((go_at_call 73; (with_reducible refine (r_Find E e _ _ es s _ he he' ((HM.out.below HBB.out.below).more HBB.out.below.size)).mono ?_); intro e w4 hr; obtain ⟨rfl, hb, hc, hf, hz⟩ := hr.use; (try simp only [ws] at hz); clear hr); have HY := Lib.hid (HBY.out.on hb); have HK4 := Lib.hid (HBB.out.on hb); clear hb; have hz4 := HY.out.lt)
              | (refine wpList_store_part rfl 23 (.tmp 52) (.tmp 51) rfl (HY.out.alloc _) rfl rfl (machL_putCode (k' := (findE es s).1.code) HR8.out) (show 56 + 5 ≤ (machL _ _ _ _ _).toArray.size by rw [List.size_toArray, machL_length HR8.out]; decide) (by kernel_rfl) (by simp [Value.oneCell']) ?_; intro w5 hbw5 hgw5 hzw5; rw [World.size_alloc] at hzw5; have HK5 := Lib.hid ((HK4.out.alloc (.cells #[.string (findE es s).1.name, .int .i64 (findE es s).1.code.perm, .int .i64 (findE es s).1.code.base, .int .i64 (findE es s).1.code.len, .int .i64 (findE es s).1.code.pos, .int .i64 (findE es s).1.code.tag, .int .i64 (findE es s).1.data.perm, .int .i64 (findE es s).1.data.base, .int .i64 (findE es s).1.data.len, .int .i64 (findE es s).1.data.pos, .int .i64 (findE es s).1.data.tag] 119)).grown' hgw5 (fun k hk => by cases hk; exact hz2)); have HC5 := Lib.hid (((Box.new w4 119 #[.string (findE es s).1.name, .int .i64 (findE es s).1.code.perm, .int .i64 (findE es s).1.code.base, .int .i64 (findE es s).1.code.len, .int .i64 (findE es s).1.code.pos, .int .i64 (findE es s).1.code.tag, .int .i64 (findE es s).1.data.perm, .int .i64 (findE es s).1.data.base, .int .i64 (findE es s).1.data.len, .int .i64 (findE es s).1.data.pos, .int .i64 (findE es s).1.data.tag] rfl).grown hgw5 (fun h => by injection h with h; omega)) : Box w5 w4.heap.size 119 #[.string (findE es s).1.name, .int .i64 (findE es s).1.code.perm, .int .i64 (findE es s).1.code.base, .int .i64 (findE es s).1.code.len, .int .i64 (findE es s).1.code.pos, .int .i64 (findE es s).1.code.tag, .int .i64 (findE es s).1.data.perm, .int .i64 (findE es s).1.data.base, .int .i64 (findE es s).1.data.len, .int .i64 (findE es s).1.data.pos, .int .i64 (findE es s).1.data.tag]); clear hgw5)
              | (refine wpList_store_val rfl 3 (.tmp 54) (.const (.int .i64 0)) rfl hbw5 rfl rfl rfl (machL_tag HR8.out 0) (show 60 < (machL _ _ _ _ _).toArray.size by rw [List.size_toArray, machL_length HR8.out]; decide) (by kernel_rfl) ?_; intro w6 hbw6 hgw6 hzw6; have HK6 := Lib.hid (HK5.out.grown' hgw6 (fun k hk => by cases hk; exact hz2)); have ce := (HC5.out.grown hgw6 (fun h => by injection h with h; omega)).cell; clear hgw6)
              | (refine wpList_store_part rfl 25 (.tmp 59) (.tmp 57) rfl hbw6 rfl rfl (machL_putReg (i := 7) HR8.out (by decide) ⟨true, 0, (findE es s).1.data⟩) (show 49 + 7 ≤ (machL _ _ _ _ _).toArray.size by rw [List.size_toArray, machL_length HR8.out]; decide) (by kernel_rfl) (by simp [Value.oneCell']) ?_; intro w7 hbw7 hgw7 hzw7; have HK7 := Lib.hid (HK6.out.grown' hgw7 (fun k hk => by cases hk; exact hz2)); clear hgw7)
              | (refine wpList_store_val rfl 3 (.tmp 63) (.const (.int .i64 0)) rfl hbw7 rfl rfl rfl HS7.out (show 55 < (machL _ _ _ _ _).toArray.size by rw [List.size_toArray, machL_length HR7.out]; decide) (by kernel_rfl) ?_; intro w8 hbw8 hgw8 hzw8; have HK8 := Lib.hid (HK7.out.grown' hgw8 (fun k hk => by cases hk; exact hz2)); have c0 := (HK8.out.box 0 _ rfl).cell; (simp only [Nat.add_zero] at c0); clear hgw8)
              | (go_at_call 43; (with_reducible refine (r_Copy_V A c xs _ hx1.out hx2.out ((HL.out.below HK8.out.below).more HK8.out.below.size)).mono ?_); rintro e w9 ⟨A2, k2, rfl, hO2, hL2, hb2⟩; have HB9 := Lib.hid (Box.on hbw8 hb2); have HK9 := Lib.hid (HK8.out.on hb2); have HO2 := Lib.hid hO2; have hz9 := hb2.size; clear hb2 hL2 hO2)
              | (refine wpList_store_val rfl 27 (.tmp 67) (.tmp 66) rfl HB9.out rfl rfl rfl (machL_mem HR9.out (.slice A2 xs.length k2)) (show 61 < (machL _ _ _ _ _).toArray.size by rw [List.size_toArray, machL_length HR9.out]; decide) (by kernel_rfl) ?_; intro w10 hbw10 hgw10 hzw10; have HK10 := Lib.hid (HK9.out.grown' hgw10 (fun k hk => by cases hk; exact hz2)); have HO10 := Lib.hid (HO2.out.kept hgw10 (.inl fun h => by have := HO2.out.lt _ h; omega)))
              | (refine wpList_load_mach rfl (.tmp 9) rfl hbw10 rfl HR9.out ?_)
              | (refine wpList_store_mach rfl (.tmp 6) (.tmp 68) rfl (HK10.out.box 1 _ rfl) rfl rfl HR9.out zeroM_size rfl rfl rfl ?_; intro w11 hbw11 hgw11 hzw11)
              | fail)
            (try simp only [Exit.inBlock, Exit.then])
            refine bodyPost_ret (results_ct rfl rfl hbw11 Tryz.underlying31 rfl (info_mach HR9.out)) rfl ?_
            rw [HE.out]
            have hO := (HO10.out.kept hgw11 (.inl fun h => by have := HO10.out.lt _ h; omega))
            exact ⟨_, rfl, ⟨⟨A2, none, none, k2, 0, 0, rfl, hO.cap.1, hO.cap.2, Nat.le_refl _, Nat.zero_le _, Nat.le_refl _, Nat.zero_le _, hO.liesB (fun _ => rfl) rfl, Lies.nil_, Lies.nil_⟩, HR9.out⟩, HK10.out.below.grown hgw11 HK10.out.below.size (fun k hk => by injection hk with hk; omega)⟩
  · rw [enterF_img h0]
    go_enter Tryz.func42, Tryz.ntmps42
    go_wp2_with (first | (go_at_call 72; (with_reducible refine (r_EnterCheck A E Ap c e np cp xs es _ HW.out HWE.out ((HL.out.below bel).more (by ((try simp only [World.size_alloc, World.size_setCell, World.size_drew]) <;> omega))) ((HM.out.below bel).more (by ((try simp only [World.size_alloc, World.size_setCell, World.size_drew]) <;> omega)))).mono ?_); intro e w1 hr; obtain ⟨rfl, hb, hc, hf, hz⟩ := hr.use; clear hr hc hf; have hK := KeptB.on (imgB _ w) hb; clear hb hz; have HK := Lib.hid hK; have hbw := hK.below; have HB0 := Lib.hid (hK.box 0 _ rfl); have c0 := fun o => HB0.out.cell o; have f0 := fun o => HB0.out.frozen o; have z0 := HB0.out.lt; (try dsimp only at c0); have HB1 := Lib.hid (hK.box 1 _ rfl); have c1 := fun o => HB1.out.cell o; have f1 := fun o => HB1.out.frozen o; have z1 := HB1.out.lt; (try dsimp only at c1); (try simp only [Nat.add_zero] at c0 f0 z0); clear hK) | (refine wpList_store_box rfl 31 (.tmp 6) (.tmp 18) rfl (HK.out.box 1 _ rfl) rfl rfl (by kernel_rfl) rfl (by simp [Value.oneCell']) ?_; intro w2 hbw2 hgw2 hzw2) | fail)
    have hbw3 : Box w2 (w.heap.size + 1) 31 zeroM := hbw2
    ((try simp only [Exit.inBlock, Exit.then]); refine bodyPost_ret (results_ct rfl rfl hbw3 Tryz.underlying31 rfl (by kernel_rfl)) rfl ?_)
    exact ⟨_, rfl, MachV.zero w2 _, hbw.grown hgw2 (by omega) (fun k hk => by cases hk; omega)⟩
end Go.Proofs.YthmpnnfejghhfaaGreatDoor
