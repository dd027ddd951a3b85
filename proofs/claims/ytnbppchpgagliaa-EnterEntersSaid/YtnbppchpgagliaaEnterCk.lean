/- The contracts of enter.Check and of its reference: each returns a plain function of an image. Conditions: the numbers are numbers of 64 bits. -/
import Derived.Test.YtnbppchpgagliaaMem
import Derived.Test.YtnbppchpgagliaaImage
import Derived.Test.YtnbppchpgagliaaQTail
import Derived.LoopN
namespace Go.Proofs.Ytnbppchpgagliaa
open Go.RowKit
set_option linter.unusedVariables false
set_option linter.unusedSimpArgs false
set_option maxRecDepth 100000

def entryE (x : Entry) : Int := if keyOk x.code = true then keyE x.data else 1
/-- Check of an image -/
def imgE (xs : List Val) (es : List Entry) : Int := if (memE xs != 0) = true then memE xs else if 160 < es.length then 2 else firstE entryE es
theorem entryE_cases (x : Entry) : entryE x = 0 ∨ entryE x = 1 := by
  unfold entryE keyE
  split
  · split <;> simp
  · simp
theorem imgE_mem {xs : List Val} {es : List Entry} (h : (memE xs != 0) = true) : imgE xs es = memE xs := by unfold imgE; rw [if_pos h]
theorem imgE_large {xs : List Val} {es : List Entry} (h : (memE xs != 0) = false) (hl : 160 < es.length) : imgE xs es = 2 := by unfold imgE; rw [if_neg (by simp [h]), if_pos hl]
theorem imgE_all {xs : List Val} {es : List Entry} (h : (memE xs != 0) = false) (hl : ¬ 160 < es.length) : imgE xs es = firstFrom entryE es 0 := by unfold imgE; rw [if_neg (by simp [h]), if_neg hl]; rfl

set_option maxHeartbeats 2000000 in
set_option maxRecDepth 100000 in
theorem c_enter_Check (A E Ap : Option Addr) (c e np cp : Nat) (xs : List Val) (es : List Entry) (w : World) (hL : Lies encV 7 w w.heap.size A xs) (hM : Lies encE 11 w w.heap.size E es) :
    Calls Try.prog 29 #[.agg #[.slice A xs.length c, .slice Ap np cp, .slice E es.length e]] w (Ret (.int .i64 (imgE xs es)) w) := by
  cases hm : (memE xs != 0)
  · by_cases hn : 160 < es.length
    · have H := Lib.hid (imgE_large hm hn)
      go_enter Try.func29, Try.ntmps29
      go_wp2_with (go_at_call 19; (with_reducible refine (c_mem_Check A c xs _ ((hL.below ((Below.refl _ _).alloc (Nat.le_refl _) _)).more (by simp [World.size_alloc]))).mono ?_); intro e w1 hr; obtain ⟨rfl, hb, hc, hf, hz⟩ := hr.use; (try simp only [World.size_alloc, World.size_setCell, World.size_drew] at hz); clear hr; have c0 := fun o => hc (w.heap.size) o (by (try simp only [World.size_alloc, World.size_setCell, World.size_drew]); omega); have f0 := fun o => hf (w.heap.size) o (by (try simp only [World.size_alloc, World.size_setCell, World.size_drew]); omega); have z0 : w.heap.size < w1.heap.size := (by (try simp only [World.size_alloc, World.size_setCell, World.size_drew]); omega); clear hc hf; simp only [go_sem, World.size_alloc, *] at c0 f0)
      go_returns
      exact Ret.int H.out.symm (by (repeat' (first | (with_reducible exact Below.refl _ _) | (with_reducible assumption) | (with_reducible refine Below.alloc ?_ ?_ _) | (with_reducible refine Below.drew ?_) | (with_reducible refine Below.setCell ?_ ?_ _) | (refine Below.trans ?_ (Below.mono (by with_reducible assumption) ?_)) | go_size)))
    · have H0 := Lib.hid (imgE_all hm hn)
      have hn' : es.length ≤ 160 := by omega
      clear hn
      go_enter Try.func29, Try.ntmps29
      go_wp2_with (go_at_call 19; (with_reducible refine (c_mem_Check A c xs _ ((hL.below ((Below.refl _ _).alloc (Nat.le_refl _) _)).more (by simp [World.size_alloc]))).mono ?_); intro e w1 hr; obtain ⟨rfl, hb, hc, hf, hz⟩ := hr.use; (try simp only [World.size_alloc, World.size_setCell, World.size_drew] at hz); clear hr; have c0 := fun o => hc (w.heap.size) o (by (try simp only [World.size_alloc, World.size_setCell, World.size_drew]); omega); have f0 := fun o => hf (w.heap.size) o (by (try simp only [World.size_alloc, World.size_setCell, World.size_drew]); omega); have z0 : w.heap.size < w1.heap.size := (by (try simp only [World.size_alloc, World.size_setCell, World.size_drew]); omega); clear hc hf; simp only [go_sem, World.size_alloc, *] at c0 f0)
      go_loopw [5, 7, 8, 22] (fun _ _ _ v wr => ∃ k : Nat, v = .int .i64 k ∧ k ≤ es.length ∧ imgE xs es = firstFrom entryE es k ∧ Below w.heap.size w wr) (fun _ _ _ v _ => (es.length - intOf v).toNat)
      case atStart => exact ⟨0, rfl, by omega, H0.out, by (repeat' (first | (with_reducible exact Below.refl _ _) | (with_reducible assumption) | (with_reducible refine Below.alloc ?_ ?_ _) | (with_reducible refine Below.drew ?_) | (with_reducible refine Below.setCell ?_ ?_ _) | (refine Below.trans ?_ (Below.mono (by with_reducible assumption) ?_)) | go_size))⟩
      case round =>
        obtain ⟨k, rfl, hk, he, hbw⟩ := hrel
        have hbz := hbw.size
        have HF := Lib.hid he
        clear he
        rcases Nat.lt_or_ge k es.length with hlt | hge
        · obtain ⟨b, o, x, rfl, hb, hx, q0, q1, q2, q3, q4, q5, q6, q7, q8, q9, q10⟩ := (hM.below hbw).cellsE hlt
          have HX := Lib.hid hx
          clear hx
          go_wp2
          refine wp_loop_rounds 3 ?_
          rw [rounds_succ]
          cases h1 : keyOk x.code
          · have h0 := keyE_no h1
            have H := Lib.hid (HF.out.trans (firstFrom_no HX.out (by simp [entryE, h1])))
            have H1 := Lib.hid (show entryE x = 1 by simp [entryE, h1])
            go_wp2_with (go_at_call 52; (with_reducible refine (c_keys_Check x.code _).mono ?_); intro e w2 hr; obtain ⟨rfl, hb, hc, hf, hz⟩ := hr.use; (try simp only [World.size_alloc, World.size_setCell, World.size_drew] at hz); clear hr)
            go_returns
            exact Ret.int (by rw [H.out, H1.out]) (by (repeat' (first | (with_reducible exact Below.refl _ _) | (with_reducible assumption) | (with_reducible refine Below.alloc ?_ ?_ _) | (with_reducible refine Below.drew ?_) | (with_reducible refine Below.setCell ?_ ?_ _) | (refine Below.trans ?_ (Below.mono (by with_reducible assumption) ?_)) | go_size)))
          · have h0 := keyE_ok h1
            have H1 := Lib.hid (show entryE x = keyE x.data by simp [entryE, h1])
            go_wp2_with (go_at_call 52; (with_reducible refine (c_keys_Check x.code _).mono ?_); intro e w2 hr; obtain ⟨rfl, hb, hc, hf, hz⟩ := hr.use; (try simp only [World.size_alloc, World.size_setCell, World.size_drew] at hz); clear hr; have c0 := fun o => hc (wr.heap.size + 1) o (by (try simp only [World.size_alloc, World.size_setCell, World.size_drew]); omega); have f0 := fun o => hf (wr.heap.size + 1) o (by (try simp only [World.size_alloc, World.size_setCell, World.size_drew]); omega); have z0 : wr.heap.size + 1 < w2.heap.size := (by (try simp only [World.size_alloc, World.size_setCell, World.size_drew]); omega); clear hc hf; simp only [go_sem, World.size_alloc, *] at c0 f0)
            rw [rounds_succ]
            cases h2 : keyOk x.data
            · have k0 := keyE_no h2
              have H := Lib.hid (HF.out.trans (firstFrom_no HX.out (by rw [H1.out, k0]; rfl)))
              go_wp2_with (go_at_call 52; (with_reducible refine (c_keys_Check x.data _).mono ?_); intro e w3 hr; obtain ⟨rfl, hb, hc, hf, hz⟩ := hr.use; (try simp only [World.size_alloc, World.size_setCell, World.size_drew] at hz); clear hr)
              go_returns
              exact Ret.int (by rw [H.out, H1.out, k0]) (by (repeat' (first | (with_reducible exact Below.refl _ _) | (with_reducible assumption) | (with_reducible refine Below.alloc ?_ ?_ _) | (with_reducible refine Below.drew ?_) | (with_reducible refine Below.setCell ?_ ?_ _) | (refine Below.trans ?_ (Below.mono (by with_reducible assumption) ?_)) | go_size)))
            · have k0 := keyE_ok h2
              have H := Lib.hid (HF.out.trans (firstFrom_ok HX.out (by rw [H1.out, k0]; rfl)))
              go_wp2_with (go_at_call 52; (with_reducible refine (c_keys_Check x.data _).mono ?_); intro e w3 hr; obtain ⟨rfl, hb, hc, hf, hz⟩ := hr.use; (try simp only [World.size_alloc, World.size_setCell, World.size_drew] at hz); clear hr; have c0 := fun o => hc (wr.heap.size + 1) o (by (try simp only [World.size_alloc, World.size_setCell, World.size_drew]); omega); have f0 := fun o => hf (wr.heap.size + 1) o (by (try simp only [World.size_alloc, World.size_setCell, World.size_drew]); omega); have z0 : wr.heap.size + 1 < w3.heap.size := (by (try simp only [World.size_alloc, World.size_setCell, World.size_drew]); omega); clear hc hf; simp only [go_sem, World.size_alloc, *] at c0 f0)
              rw [rounds_succ]
              go_wp2
              go_roundw
              case rel => exact ⟨k + 1, by go_num, by omega, H.out, by (repeat' (first | (with_reducible exact Below.refl _ _) | (with_reducible assumption) | (with_reducible refine Below.alloc ?_ ?_ _) | (with_reducible refine Below.drew ?_) | (with_reducible refine Below.setCell ?_ ?_ _) | (refine Below.trans ?_ (Below.mono (by with_reducible assumption) ?_)) | go_size))⟩
              case measure => simp [intOf]; omega
        · have H := Lib.hid (HF.out.trans (firstFrom_end hge))
          go_wp2
          go_returns
          exact Ret.int H.out.symm (by (repeat' (first | (with_reducible exact Below.refl _ _) | (with_reducible assumption) | (with_reducible refine Below.alloc ?_ ?_ _) | (with_reducible refine Below.drew ?_) | (with_reducible refine Below.setCell ?_ ?_ _) | (refine Below.trans ?_ (Below.mono (by with_reducible assumption) ?_)) | go_size)))
  · have H := Lib.hid (imgE_mem (es := es) hm)
    go_enter Try.func29, Try.ntmps29
    go_wp2_with (go_at_call 19; (with_reducible refine (c_mem_Check A c xs _ ((hL.below ((Below.refl _ _).alloc (Nat.le_refl _) _)).more (by simp [World.size_alloc]))).mono ?_); intro e w1 hr; obtain ⟨rfl, hb, hc, hf, hz⟩ := hr.use; (try simp only [World.size_alloc, World.size_setCell, World.size_drew] at hz); clear hr; have c0 := fun o => hc (w.heap.size) o (by (try simp only [World.size_alloc, World.size_setCell, World.size_drew]); omega); have f0 := fun o => hf (w.heap.size) o (by (try simp only [World.size_alloc, World.size_setCell, World.size_drew]); omega); have z0 : w.heap.size < w1.heap.size := (by (try simp only [World.size_alloc, World.size_setCell, World.size_drew]); omega); clear hc hf; simp only [go_sem, World.size_alloc, *] at c0 f0)
    go_returns
    exact Ret.int H.out.symm (by (repeat' (first | (with_reducible exact Below.refl _ _) | (with_reducible assumption) | (with_reducible refine Below.alloc ?_ ?_ _) | (with_reducible refine Below.drew ?_) | (with_reducible refine Below.setCell ?_ ?_ _) | (refine Below.trans ?_ (Below.mono (by with_reducible assumption) ?_)) | go_size)))
set_option maxHeartbeats 2000000 in
set_option maxRecDepth 100000 in
theorem r_EnterCheck (A E Ap : Option Addr) (c e np cp : Nat) (xs : List Val) (es : List Entry) (w : World) (hwf : ∀ (i : Nat) v, xs[i]? = some v → Val.Wf v) (hwe : ∀ (i : Nat) v, es[i]? = some v → Entry.Wf v) (hL : Lies encV 7 w w.heap.size A xs) (hM : Lies encE 11 w w.heap.size E es) :
    Calls Try.prog 30 #[.agg #[.slice A xs.length c, .slice Ap np cp, .slice E es.length e]] w (Ret (.int .i64 (imgE xs es)) w) := by
  have HW := Lib.hid hwf
  have HWE := Lib.hid hwe
  clear hwf hwe
  cases hm : (memE xs != 0)
  · by_cases hn : 160 < es.length
    · have H := Lib.hid (imgE_large hm hn)
      go_enter Try.func30, Try.ntmps30
      go_wp2_with (go_at_call 20; (with_reducible refine (r_MemCheck A c xs _ HW.out ((hL.below ((Below.refl _ _).alloc (Nat.le_refl _) _)).more (by simp [World.size_alloc]))).mono ?_); intro e w1 hr; obtain ⟨rfl, hb, hc, hf, hz⟩ := hr.use; (try simp only [World.size_alloc, World.size_setCell, World.size_drew] at hz); clear hr; have c0 := fun o => hc (w.heap.size) o (by (try simp only [World.size_alloc, World.size_setCell, World.size_drew]); omega); have f0 := fun o => hf (w.heap.size) o (by (try simp only [World.size_alloc, World.size_setCell, World.size_drew]); omega); have z0 : w.heap.size < w1.heap.size := (by (try simp only [World.size_alloc, World.size_setCell, World.size_drew]); omega); clear hc hf; simp only [go_sem, World.size_alloc, *] at c0 f0)
      go_returns
      exact Ret.int H.out.symm (by (repeat' (first | (with_reducible exact Below.refl _ _) | (with_reducible assumption) | (with_reducible refine Below.alloc ?_ ?_ _) | (with_reducible refine Below.drew ?_) | (with_reducible refine Below.setCell ?_ ?_ _) | (refine Below.trans ?_ (Below.mono (by with_reducible assumption) ?_)) | go_size)))
    · have H0 := Lib.hid (imgE_all hm hn)
      have hn' : es.length ≤ 160 := by omega
      clear hn
      go_enter Try.func30, Try.ntmps30
      go_wp2_with (go_at_call 20; (with_reducible refine (r_MemCheck A c xs _ HW.out ((hL.below ((Below.refl _ _).alloc (Nat.le_refl _) _)).more (by simp [World.size_alloc]))).mono ?_); intro e w1 hr; obtain ⟨rfl, hb, hc, hf, hz⟩ := hr.use; (try simp only [World.size_alloc, World.size_setCell, World.size_drew] at hz); clear hr; have c0 := fun o => hc (w.heap.size) o (by (try simp only [World.size_alloc, World.size_setCell, World.size_drew]); omega); have f0 := fun o => hf (w.heap.size) o (by (try simp only [World.size_alloc, World.size_setCell, World.size_drew]); omega); have z0 : w.heap.size < w1.heap.size := (by (try simp only [World.size_alloc, World.size_setCell, World.size_drew]); omega); clear hc hf; simp only [go_sem, World.size_alloc, *] at c0 f0)
      go_loopw [5, 19] (fun _ v wr => ∃ k : Nat, v = .int .i64 k ∧ k ≤ es.length ∧ imgE xs es = firstFrom entryE es k ∧ Below w.heap.size w wr) (fun _ v _ => (es.length - intOf v).toNat)
      case atStart => exact ⟨0, rfl, by omega, H0.out, by (repeat' (first | (with_reducible exact Below.refl _ _) | (with_reducible assumption) | (with_reducible refine Below.alloc ?_ ?_ _) | (with_reducible refine Below.drew ?_) | (with_reducible refine Below.setCell ?_ ?_ _) | (refine Below.trans ?_ (Below.mono (by with_reducible assumption) ?_)) | go_size))⟩
      case round =>
        obtain ⟨k, rfl, hk, he, hbw⟩ := hrel
        have hbz := hbw.size
        have HF := Lib.hid he
        clear he
        rcases Nat.lt_or_ge k es.length with hlt | hge
        · obtain ⟨b, o, x, rfl, hb, hx, q0, q1, q2, q3, q4, q5, q6, q7, q8, q9, q10⟩ := (hM.below hbw).cellsE hlt
          have HX := Lib.hid hx
          have HXW := Lib.hid (HWE.out k x hx)
          clear hx
          cases h1 : keyOk x.code
          · have h0 := keyE_no h1
            have H := Lib.hid (HF.out.trans (firstFrom_no HX.out (by simp [entryE, h1])))
            have H1 := Lib.hid (show entryE x = 1 by simp [entryE, h1])
            go_wp2_with (go_at_call 59; (with_reducible refine (r_KeyCheck x.code HXW.out.code _).mono ?_); intro e w2 hr; obtain ⟨rfl, hb, hc, hf, hz⟩ := hr.use; (try simp only [World.size_alloc, World.size_setCell, World.size_drew] at hz); clear hr; have c0 := fun o => hc (wr.heap.size) o (by (try simp only [World.size_alloc, World.size_setCell, World.size_drew]); omega); have f0 := fun o => hf (wr.heap.size) o (by (try simp only [World.size_alloc, World.size_setCell, World.size_drew]); omega); have z0 : wr.heap.size < w2.heap.size := (by (try simp only [World.size_alloc, World.size_setCell, World.size_drew]); omega); clear hc hf; simp only [go_sem, World.size_alloc, *] at c0 f0)
            go_returns
            exact Ret.int (by rw [H.out, H1.out]) (by (repeat' (first | (with_reducible exact Below.refl _ _) | (with_reducible assumption) | (with_reducible refine Below.alloc ?_ ?_ _) | (with_reducible refine Below.drew ?_) | (with_reducible refine Below.setCell ?_ ?_ _) | (refine Below.trans ?_ (Below.mono (by with_reducible assumption) ?_)) | go_size)))
          · have h0 := keyE_ok h1
            have H1 := Lib.hid (show entryE x = keyE x.data by simp [entryE, h1])
            cases h2 : keyOk x.data
            · have k0 := keyE_no h2
              have H := Lib.hid (HF.out.trans (firstFrom_no HX.out (by rw [H1.out, k0]; rfl)))
              go_wp2_with (go_at_call 59; (with_reducible refine (r_KeyCheck _ (by first | exact HXW.out.code | exact HXW.out.data) _).mono ?_); intro e w2 hr; obtain ⟨rfl, hb, hc, hf, hz⟩ := hr.use; (try simp only [World.size_alloc, World.size_setCell, World.size_drew] at hz); clear hr; have c0 := fun o => hc (wr.heap.size) o (by (try simp only [World.size_alloc, World.size_setCell, World.size_drew]); omega); have f0 := fun o => hf (wr.heap.size) o (by (try simp only [World.size_alloc, World.size_setCell, World.size_drew]); omega); have z0 : wr.heap.size < w2.heap.size := (by (try simp only [World.size_alloc, World.size_setCell, World.size_drew]); omega); clear hc hf; simp only [go_sem, World.size_alloc, *] at c0 f0)
              go_returns
              exact Ret.int (by rw [H.out, H1.out, k0]) (by (repeat' (first | (with_reducible exact Below.refl _ _) | (with_reducible assumption) | (with_reducible refine Below.alloc ?_ ?_ _) | (with_reducible refine Below.drew ?_) | (with_reducible refine Below.setCell ?_ ?_ _) | (refine Below.trans ?_ (Below.mono (by with_reducible assumption) ?_)) | go_size)))
            · have k0 := keyE_ok h2
              have H := Lib.hid (HF.out.trans (firstFrom_ok HX.out (by rw [H1.out, k0]; rfl)))
              go_wp2_with (go_at_call 59; (with_reducible refine (r_KeyCheck _ (by first | exact HXW.out.code | exact HXW.out.data) _).mono ?_); intro e w2 hr; obtain ⟨rfl, hb, hc, hf, hz⟩ := hr.use; (try simp only [World.size_alloc, World.size_setCell, World.size_drew] at hz); clear hr; have c0 := fun o => hc (wr.heap.size) o (by (try simp only [World.size_alloc, World.size_setCell, World.size_drew]); omega); have f0 := fun o => hf (wr.heap.size) o (by (try simp only [World.size_alloc, World.size_setCell, World.size_drew]); omega); have z0 : wr.heap.size < w2.heap.size := (by (try simp only [World.size_alloc, World.size_setCell, World.size_drew]); omega); clear hc hf; simp only [go_sem, World.size_alloc, *] at c0 f0)
              go_roundw
              case rel => exact ⟨k + 1, by go_num, by omega, H.out, by (repeat' (first | (with_reducible exact Below.refl _ _) | (with_reducible assumption) | (with_reducible refine Below.alloc ?_ ?_ _) | (with_reducible refine Below.drew ?_) | (with_reducible refine Below.setCell ?_ ?_ _) | (refine Below.trans ?_ (Below.mono (by with_reducible assumption) ?_)) | go_size))⟩
              case measure => simp [intOf]; omega
        · have H := Lib.hid (HF.out.trans (firstFrom_end hge))
          go_wp2
          go_returns
          exact Ret.int H.out.symm (by (repeat' (first | (with_reducible exact Below.refl _ _) | (with_reducible assumption) | (with_reducible refine Below.alloc ?_ ?_ _) | (with_reducible refine Below.drew ?_) | (with_reducible refine Below.setCell ?_ ?_ _) | (refine Below.trans ?_ (Below.mono (by with_reducible assumption) ?_)) | go_size)))
  · have H := Lib.hid (imgE_mem (es := es) hm)
    go_enter Try.func30, Try.ntmps30
    go_wp2_with (go_at_call 20; (with_reducible refine (r_MemCheck A c xs _ HW.out ((hL.below ((Below.refl _ _).alloc (Nat.le_refl _) _)).more (by simp [World.size_alloc]))).mono ?_); intro e w1 hr; obtain ⟨rfl, hb, hc, hf, hz⟩ := hr.use; (try simp only [World.size_alloc, World.size_setCell, World.size_drew] at hz); clear hr; have c0 := fun o => hc (w.heap.size) o (by (try simp only [World.size_alloc, World.size_setCell, World.size_drew]); omega); have f0 := fun o => hf (w.heap.size) o (by (try simp only [World.size_alloc, World.size_setCell, World.size_drew]); omega); have z0 : w.heap.size < w1.heap.size := (by (try simp only [World.size_alloc, World.size_setCell, World.size_drew]); omega); clear hc hf; simp only [go_sem, World.size_alloc, *] at c0 f0)
    go_returns
    exact Ret.int H.out.symm (by (repeat' (first | (with_reducible exact Below.refl _ _) | (with_reducible assumption) | (with_reducible refine Below.alloc ?_ ?_ _) | (with_reducible refine Below.drew ?_) | (with_reducible refine Below.setCell ?_ ?_ _) | (refine Below.trans ?_ (Below.mono (by with_reducible assumption) ?_)) | go_size)))
end Go.Proofs.Ytnbppchpgagliaa
