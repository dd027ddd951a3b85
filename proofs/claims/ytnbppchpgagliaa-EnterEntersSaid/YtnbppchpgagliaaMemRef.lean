/- The contracts of the reference's place and Load: they return the same plain functions. Conditions: the numbers are numbers of 64 bits. -/
import Derived.Test.YtnbppchpgagliaaMemOps
namespace Go.Proofs.Ytnbppchpgagliaa
open Go.RowKit
set_option linter.unusedVariables false
set_option linter.unusedSimpArgs false
set_option maxRecDepth 100000

set_option maxHeartbeats 2000000 in
theorem r_place (A : Option Addr) (n c : Nat) (k : Key) (hk : k.Wf) (off : Int) (j : Nat) (hj : j < 63) (hn : n ≤ maxLen) (w : World) :
    Calls Try.prog 48 #[.slice A n c, .agg #[.int .i64 k.perm, .int .i64 k.base, .int .i64 k.len, .int .i64 k.pos, .int .i64 k.tag], .int .i64 off, .int .i64 (2 ^ j)] w (Ret (.tuple #[.int .i64 (place n k off (2 ^ j)).1, .int .i64 (place n k off (2 ^ j)).2]) w) := by
  have hn' : n ≤ 9223372036854775807 := by unfold maxLen at hn; omega
  clear hn
  have hsub := subB_pow k.perm j hj
  generalize (2 : Int) ^ j = p at hsub
  cases h0 : keyOk k
  · have k0 := keyE_no h0
    have H := Lib.hid (place_bad (n := n) (off := off) (p := p) h0)
    go_enter Try.func48, Try.ntmps48
    go_wp2_with (go_at_call 59; (with_reducible refine (r_KeyCheck k hk _).mono ?_); intro e w1 hr; obtain ⟨rfl, hb, hc, hf, hz⟩ := hr.use; clear hr hc hf; have hK := KeptB.on (keyB k w) hb; clear hb hz; have HK := Lib.hid hK; have hbw := hK.below; have HB0 := Lib.hid (hK.box 0 _ rfl); have c0 := fun o => HB0.out.cell o; have f0 := fun o => HB0.out.frozen o; have z0 := HB0.out.lt; (try dsimp only at c0); (try simp only [Nat.add_zero] at c0 f0 z0); clear hK)
    go_ret2
    exact Ret.int2 H.out (by (repeat' (first | (with_reducible exact Below.refl _ _) | (with_reducible assumption) | (with_reducible refine Below.alloc ?_ ?_ _) | (with_reducible refine Below.drew ?_) | (with_reducible refine Below.setCell ?_ ?_ _) | (refine Below.trans ?_ (Below.mono (by with_reducible assumption) ?_)) | go_size)))
  have k0 := keyE_ok h0
  obtain ⟨⟨b1, b2⟩, ⟨l1, l2⟩, ⟨p1, p2⟩, ⟨a1, a2⟩, ⟨t1, t2⟩⟩ := keyOk_iff.1 h0
  cases h1 : (k.tag == 0)
  · have H := Lib.hid (place_seal (n := n) (off := off) (p := p) h0 h1)
    have h1' : 0 < k.tag := by have := beq_eq_false_iff_ne.1 h1; omega
    go_enter Try.func48, Try.ntmps48
    go_wp2_with (go_at_call 59; (with_reducible refine (r_KeyCheck k hk _).mono ?_); intro e w1 hr; obtain ⟨rfl, hb, hc, hf, hz⟩ := hr.use; clear hr hc hf; have hK := KeptB.on (keyB k w) hb; clear hb hz; have HK := Lib.hid hK; have hbw := hK.below; have HB0 := Lib.hid (hK.box 0 _ rfl); have c0 := fun o => HB0.out.cell o; have f0 := fun o => HB0.out.frozen o; have z0 := HB0.out.lt; (try dsimp only at c0); (try simp only [Nat.add_zero] at c0 f0 z0); clear hK)
    go_ret2
    exact Ret.int2 H.out (by (repeat' (first | (with_reducible exact Below.refl _ _) | (with_reducible assumption) | (with_reducible refine Below.alloc ?_ ?_ _) | (with_reducible refine Below.drew ?_) | (with_reducible refine Below.setCell ?_ ?_ _) | (refine Below.trans ?_ (Below.mono (by with_reducible assumption) ?_)) | go_size)))
  have h1' : ¬ 0 < k.tag := by have := eq_of_beq h1; omega
  cases h2 : hasP p k.perm
  · have H := Lib.hid (place_perm (n := n) (off := off) (p := p) h0 h1 h2)
    have h2' : subB p k.perm = false := hsub.trans h2
    clear hsub
    go_enter Try.func48, Try.ntmps48
    go_wp2_with (first | (go_at_call 59; (with_reducible refine (r_KeyCheck k hk _).mono ?_); intro e w1 hr; obtain ⟨rfl, hb, hc, hf, hz⟩ := hr.use; clear hr hc hf; have hK := KeptB.on (keyB k w) hb; clear hb hz; have HK := Lib.hid hK; have hbw := hK.below; have HB0 := Lib.hid (hK.box 0 _ rfl); have c0 := fun o => HB0.out.cell o; have f0 := fun o => HB0.out.frozen o; have z0 := HB0.out.lt; (try dsimp only at c0); (try simp only [Nat.add_zero] at c0 f0 z0); clear hK) | (go_at_call 49; (with_reducible refine (r_Within _ _ _).mono ?_); rintro e w1 ⟨rfl, rfl⟩))
    go_ret2
    exact Ret.int2 H.out (by (repeat' (first | (with_reducible exact Below.refl _ _) | (with_reducible assumption) | (with_reducible refine Below.alloc ?_ ?_ _) | (with_reducible refine Below.drew ?_) | (with_reducible refine Below.setCell ?_ ?_ _) | (refine Below.trans ?_ (Below.mono (by with_reducible assumption) ?_)) | go_size)))
  have h2' : subB p k.perm = true := hsub.trans h2
  clear hsub
  go_enter Try.func48, Try.ntmps48
  go_wp2_with (first | (go_at_call 59; (with_reducible refine (r_KeyCheck k hk _).mono ?_); intro e w1 hr; obtain ⟨rfl, hb, hc, hf, hz⟩ := hr.use; clear hr hc hf; have hK := KeptB.on (keyB k w) hb; clear hb hz; have HK := Lib.hid hK; have hbw := hK.below; have HB0 := Lib.hid (hK.box 0 _ rfl); have c0 := fun o => HB0.out.cell o; have f0 := fun o => HB0.out.frozen o; have z0 := HB0.out.lt; (try dsimp only at c0); (try simp only [Nat.add_zero] at c0 f0 z0); clear hK) | (go_at_call 49; (with_reducible refine (r_Within _ _ _).mono ?_); rintro e w1 ⟨rfl, rfl⟩))
  go_loopw [11, 27] (fun _ v wr => ∃ m : Nat, v = .int .i64 m ∧ m ≤ n ∧ (∀ i : Nat, i < m → off = i - k.pos → cov k i = false) ∧ KeptB w [(#[.int .i64 k.perm, .int .i64 k.base, .int .i64 k.len, .int .i64 k.pos, .int .i64 k.tag], 28)] wr) (fun _ v _ => (n - intOf v).toNat)
  case atStart => exact ⟨0, rfl, by omega, fun i hi => by omega, HK.out⟩
  case round =>
    obtain ⟨m, rfl, hm, hall, hK⟩ := hrel
    (skip; have HK := Lib.hid hK; have hbw := hK.below; have HB0 := Lib.hid (hK.box 0 _ rfl); have c0 := fun o => HB0.out.cell o; have f0 := fun o => HB0.out.frozen o; have z0 := HB0.out.lt; (try dsimp only at c0); (try simp only [Nat.add_zero] at c0 f0 z0); clear hK)
    have HA := Lib.hid hall
    clear hall
    rcases Nat.lt_or_ge m n with hlt | hge
    · cases ho : (off == (m : Int) - k.pos)
      · have ho' := beq_eq_false_iff_ne.1 ho
        have HO := Lib.hid ho'
        clear ho'
        go_wp2
        go_roundw
        case rel =>
          refine ⟨m + 1, by go_num, by omega, fun i hi h => ?_, HK.out⟩
          rcases Nat.lt_or_ge i m with hl | hl
          · exact HA.out i hl h
          · obtain rfl : i = m := by omega
            exact absurd h HO.out
        case measure => simp [intOf]; omega
      · have ho' := Lib.hid (eq_of_beq ho)
        cases hc : cov k m
        · go_wp2_with (go_at_call 69; (with_reducible refine (r_Covers k m hk (by unfold i64; omega) _).mono ?_); intro e w2 hr; obtain ⟨rfl, hb, hc, hf, hz⟩ := hr.use; clear hr hc hf; have hK := KeptB.on (HK.out) hb; clear hb hz; have HK := Lib.hid hK; have hbw := hK.below; have HB0 := Lib.hid (hK.box 0 _ rfl); have c0 := fun o => HB0.out.cell o; have f0 := fun o => HB0.out.frozen o; have z0 := HB0.out.lt; (try dsimp only at c0); (try simp only [Nat.add_zero] at c0 f0 z0); clear hK)
          go_roundw
          case rel =>
            refine ⟨m + 1, by go_num, by omega, fun i hi h => ?_, HK.out⟩
            rcases Nat.lt_or_ge i m with hl | hl
            · exact HA.out i hl h
            · obtain rfl : i = m := by omega
              exact hc
          case measure => simp [intOf]; omega
        · have H := Lib.hid (show place n k off p = ((m : Int), 0) by
            have e : k.pos + off = m := by have := ho'.out; omega
            have := place_in (n := n) (off := off) (p := p) h0 h1 h2 (by rw [e]; exact hc) (by omega)
            rw [this, e])
          go_wp2_with (go_at_call 69; (with_reducible refine (r_Covers k m hk (by unfold i64; omega) _).mono ?_); intro e w2 hr; obtain ⟨rfl, hb, hc, hf, hz⟩ := hr.use; clear hr hc hf; have hK := KeptB.on (HK.out) hb; clear hb hz; have HK := Lib.hid hK; have hbw := hK.below; have HB0 := Lib.hid (hK.box 0 _ rfl); have c0 := fun o => HB0.out.cell o; have f0 := fun o => HB0.out.frozen o; have z0 := HB0.out.lt; (try dsimp only at c0); (try simp only [Nat.add_zero] at c0 f0 z0); clear hK)
          go_ret2
          exact Ret.int2 H.out (by (repeat' (first | (with_reducible exact Below.refl _ _) | (with_reducible assumption) | (with_reducible refine Below.alloc ?_ ?_ _) | (with_reducible refine Below.drew ?_) | (with_reducible refine Below.setCell ?_ ?_ _) | (refine Below.trans ?_ (Below.mono (by with_reducible assumption) ?_)) | go_size)))
    · obtain rfl : m = n := by omega
      have H := Lib.hid (place_out (n := m) (off := off) (p := p) h0 h1 h2 (by
        cases h3 : cov k (k.pos + off)
        · rfl
        · have h4 := cov_off h0 h3
          rw [Bool.true_and, decide_eq_false_iff_not]
          intro h5
          have h6 := HA.out (k.pos + off).toNat (by omega) (by omega)
          rw [show (((k.pos + off).toNat : Nat) : Int) = k.pos + off by omega, h3] at h6
          cases h6))
      go_wp2
      go_ret2
      exact Ret.int2 H.out (by (repeat' (first | (with_reducible exact Below.refl _ _) | (with_reducible assumption) | (with_reducible refine Below.alloc ?_ ?_ _) | (with_reducible refine Below.drew ?_) | (with_reducible refine Below.setCell ?_ ?_ _) | (refine Below.trans ?_ (Below.mono (by with_reducible assumption) ?_)) | go_size)))
set_option maxHeartbeats 2000000 in
theorem r_Load (A : Option Addr) (c : Nat) (k : Key) (hk : k.Wf) (off : Int) (xs : List Val) (hn : xs.length ≤ maxLen) (w : World) (hwf : ∀ (i : Nat) v, xs[i]? = some v → Val.Wf v) (hL : Lies encV 7 w w.heap.size A xs) :
    Calls Try.prog 18 #[.slice A xs.length c, .agg #[.int .i64 k.perm, .int .i64 k.base, .int .i64 k.len, .int .i64 k.pos, .int .i64 k.tag], .int .i64 off] w (Ret (.tuple #[.agg #[.bool (loadF xs k off).1.is, .int .i64 (loadF xs k off).1.n, .int .i64 (loadF xs k off).1.key.perm, .int .i64 (loadF xs k off).1.key.base, .int .i64 (loadF xs k off).1.key.len, .int .i64 (loadF xs k off).1.key.pos, .int .i64 (loadF xs k off).1.key.tag], .int .i64 (loadF xs k off).2]) w) := by
  have HW := Lib.hid hwf
  clear hwf
  have hs8 := subB_pow k.perm 3 (by omega)
  simp only [show (2 : Int) ^ 3 = 8 from rfl] at hs8
  have HS8 := Lib.hid hs8
  clear hs8
  cases he : (memE xs != 0)
  · have hat := r_place A xs.length c k hk off 0 (by omega) hn
    simp only [show (2 : Int) ^ 0 = 1 from rfl] at hat
    have HL := Lib.hid (show loadF xs k off = getF xs k off by unfold loadF; rw [if_neg (by simp [he])])
    cases hp : ((place xs.length k off 1).2 != 0)
    · obtain ⟨i, hi, hin, hi4, hpl⟩ := place_nat hp
      rw [hpl] at hat
      have HAT := Lib.hid hat
      have HI := Lib.hid hi
      have HE := Lib.hid hp
      clear hat hi hpl hp
      obtain ⟨b, o, v, rfl, hb, hv, -⟩ := hL.cellsV hin
      have HV := Lib.hid hv
      clear hv
      rcases v with ⟨vi, vn, vk⟩
      cases vi
      · have H := Lib.hid (HL.out.trans (getF_yes HE.out HI.out HV.out rfl))
        go_enter Try.func18, Try.ntmps18
        go_wp2_with (first | (go_at_call 20; (with_reducible refine (r_MemCheck _ c xs _ HW.out ((hL.below (by (repeat' (first | (with_reducible exact Below.refl _ _) | (with_reducible assumption) | (with_reducible refine Below.alloc ?_ ?_ _) | (with_reducible refine Below.drew ?_) | (with_reducible refine Below.setCell ?_ ?_ _) | (refine Below.trans ?_ (Below.mono (by with_reducible assumption) ?_)) | go_size)))).more (by simp only [World.size_alloc]; omega))).mono ?_); intro e w1 hr; obtain ⟨rfl, hb, hc, hf, hz⟩ := hr.use; clear hr hc hf; have hK := KeptB.on (keyB2 k w) hb; clear hb hz; have HK := Lib.hid hK; have hbw := hK.below; have HB0 := Lib.hid (hK.box 0 _ rfl); have c0 := fun o => HB0.out.cell o; have f0 := fun o => HB0.out.frozen o; have z0 := HB0.out.lt; (try dsimp only at c0); have HB1 := Lib.hid (hK.box 1 _ rfl); have c1 := fun o => HB1.out.cell o; have f1 := fun o => HB1.out.frozen o; have z1 := HB1.out.lt; (try dsimp only at c1); (try simp only [Nat.add_zero] at c0 f0 z0); clear hK) | ((go_at_call 48; (with_reducible refine (HAT.out _).mono ?_); intro e w2 hr; obtain ⟨rfl, hb, hc, hf, hz⟩ := hr.use; clear hr hc hf; have hK := KeptB.on (HK.out) hb; clear hb hz; have HK := Lib.hid hK; have hbw := hK.below; have HB0 := Lib.hid (hK.box 0 _ rfl); have c0 := fun o => HB0.out.cell o; have f0 := fun o => HB0.out.frozen o; have z0 := HB0.out.lt; (try dsimp only at c0); have HB1 := Lib.hid (hK.box 1 _ rfl); have c1 := fun o => HB1.out.cell o; have f1 := fun o => HB1.out.frozen o; have z1 := HB1.out.lt; (try dsimp only at c1); (try simp only [Nat.add_zero] at c0 f0 z0); clear hK); obtain ⟨b', o', v', hbo, -, hv', q0, q1, q2, q3, q4, q5, q6⟩ := (hL.below hbw).cellsV hin; cases hbo; cases HV.out.symm.trans hv'; clear hv') | (refine wpList_store_box rfl 35 (.tmp 6) _ rfl (HB1.out) rfl rfl (by kernel_rfl) rfl (by simp [Value.oneCell']) ?_; intro w3 hbw3 hgw3 hzw3))
        ((try simp only [Exit.inBlock, Exit.then]); refine bodyPost_ret (results_ct rfl rfl hbw3 Try.underlying35 rfl (by kernel_rfl)) rfl ?_)
        exact Ret.val (q := (⟨false, vn, vk⟩, 0)) H.out.symm (HK.out.stored hgw3 (by omega))
      · cases h8 : hasP 8 k.perm
        · have H := Lib.hid (HL.out.trans (getF_hid HE.out HI.out HV.out (by rw [h8]; rfl)))
          have h8' : subB 8 k.perm = false := HS8.out.trans h8
          go_enter Try.func18, Try.ntmps18
          go_wp2_with (first | (go_at_call 20; (with_reducible refine (r_MemCheck _ c xs _ HW.out ((hL.below (by (repeat' (first | (with_reducible exact Below.refl _ _) | (with_reducible assumption) | (with_reducible refine Below.alloc ?_ ?_ _) | (with_reducible refine Below.drew ?_) | (with_reducible refine Below.setCell ?_ ?_ _) | (refine Below.trans ?_ (Below.mono (by with_reducible assumption) ?_)) | go_size)))).more (by simp only [World.size_alloc]; omega))).mono ?_); intro e w1 hr; obtain ⟨rfl, hb, hc, hf, hz⟩ := hr.use; clear hr hc hf; have hK := KeptB.on (keyB2 k w) hb; clear hb hz; have HK := Lib.hid hK; have hbw := hK.below; have HB0 := Lib.hid (hK.box 0 _ rfl); have c0 := fun o => HB0.out.cell o; have f0 := fun o => HB0.out.frozen o; have z0 := HB0.out.lt; (try dsimp only at c0); have HB1 := Lib.hid (hK.box 1 _ rfl); have c1 := fun o => HB1.out.cell o; have f1 := fun o => HB1.out.frozen o; have z1 := HB1.out.lt; (try dsimp only at c1); (try simp only [Nat.add_zero] at c0 f0 z0); clear hK) | ((go_at_call 48; (with_reducible refine (HAT.out _).mono ?_); intro e w2 hr; obtain ⟨rfl, hb, hc, hf, hz⟩ := hr.use; clear hr hc hf; have hK := KeptB.on (HK.out) hb; clear hb hz; have HK := Lib.hid hK; have hbw := hK.below; have HB0 := Lib.hid (hK.box 0 _ rfl); have c0 := fun o => HB0.out.cell o; have f0 := fun o => HB0.out.frozen o; have z0 := HB0.out.lt; (try dsimp only at c0); have HB1 := Lib.hid (hK.box 1 _ rfl); have c1 := fun o => HB1.out.cell o; have f1 := fun o => HB1.out.frozen o; have z1 := HB1.out.lt; (try dsimp only at c1); (try simp only [Nat.add_zero] at c0 f0 z0); clear hK); obtain ⟨b', o', v', hbo, -, hv', q0, q1, q2, q3, q4, q5, q6⟩ := (hL.below hbw).cellsV hin; cases hbo; cases HV.out.symm.trans hv'; clear hv') | (go_at_call 49; (with_reducible refine (r_Within _ _ _).mono ?_); rintro e w1 ⟨rfl, rfl⟩) | (refine wpList_store_box rfl 35 (.tmp 6) _ rfl (HB1.out) rfl rfl (by kernel_rfl) rfl (by simp [Value.oneCell']) ?_; intro w3 hbw3 hgw3 hzw3))
          ((try simp only [Exit.inBlock, Exit.then]); refine bodyPost_ret (results_ct rfl rfl hbw3 Try.underlying35 rfl (by kernel_rfl)) rfl ?_)
          exact Ret.val (q := (Val.zero, 0)) H.out.symm (HK.out.stored hgw3 (by omega))
        · have H := Lib.hid (HL.out.trans (getF_yes HE.out HI.out HV.out (by rw [h8]; rfl)))
          have h8' : subB 8 k.perm = true := HS8.out.trans h8
          go_enter Try.func18, Try.ntmps18
          go_wp2_with (first | (go_at_call 20; (with_reducible refine (r_MemCheck _ c xs _ HW.out ((hL.below (by (repeat' (first | (with_reducible exact Below.refl _ _) | (with_reducible assumption) | (with_reducible refine Below.alloc ?_ ?_ _) | (with_reducible refine Below.drew ?_) | (with_reducible refine Below.setCell ?_ ?_ _) | (refine Below.trans ?_ (Below.mono (by with_reducible assumption) ?_)) | go_size)))).more (by simp only [World.size_alloc]; omega))).mono ?_); intro e w1 hr; obtain ⟨rfl, hb, hc, hf, hz⟩ := hr.use; clear hr hc hf; have hK := KeptB.on (keyB2 k w) hb; clear hb hz; have HK := Lib.hid hK; have hbw := hK.below; have HB0 := Lib.hid (hK.box 0 _ rfl); have c0 := fun o => HB0.out.cell o; have f0 := fun o => HB0.out.frozen o; have z0 := HB0.out.lt; (try dsimp only at c0); have HB1 := Lib.hid (hK.box 1 _ rfl); have c1 := fun o => HB1.out.cell o; have f1 := fun o => HB1.out.frozen o; have z1 := HB1.out.lt; (try dsimp only at c1); (try simp only [Nat.add_zero] at c0 f0 z0); clear hK) | ((go_at_call 48; (with_reducible refine (HAT.out _).mono ?_); intro e w2 hr; obtain ⟨rfl, hb, hc, hf, hz⟩ := hr.use; clear hr hc hf; have hK := KeptB.on (HK.out) hb; clear hb hz; have HK := Lib.hid hK; have hbw := hK.below; have HB0 := Lib.hid (hK.box 0 _ rfl); have c0 := fun o => HB0.out.cell o; have f0 := fun o => HB0.out.frozen o; have z0 := HB0.out.lt; (try dsimp only at c0); have HB1 := Lib.hid (hK.box 1 _ rfl); have c1 := fun o => HB1.out.cell o; have f1 := fun o => HB1.out.frozen o; have z1 := HB1.out.lt; (try dsimp only at c1); (try simp only [Nat.add_zero] at c0 f0 z0); clear hK); obtain ⟨b', o', v', hbo, -, hv', q0, q1, q2, q3, q4, q5, q6⟩ := (hL.below hbw).cellsV hin; cases hbo; cases HV.out.symm.trans hv'; clear hv') | (go_at_call 49; (with_reducible refine (r_Within _ _ _).mono ?_); rintro e w1 ⟨rfl, rfl⟩) | (refine wpList_store_box rfl 35 (.tmp 6) _ rfl (HB1.out) rfl rfl (by kernel_rfl) rfl (by simp [Value.oneCell']) ?_; intro w3 hbw3 hgw3 hzw3))
          ((try simp only [Exit.inBlock, Exit.then]); refine bodyPost_ret (results_ct rfl rfl hbw3 Try.underlying35 rfl (by kernel_rfl)) rfl ?_)
          exact Ret.val (q := (⟨true, vn, vk⟩, 0)) H.out.symm (HK.out.stored hgw3 (by omega))
    · have H := Lib.hid (HL.out.trans (getF_no hp))
      generalize place xs.length k off 1 = r at hat hp H
      obtain ⟨ra, rb⟩ := r
      have HAT := Lib.hid hat
      clear hat
      simp only at hp
      go_enter Try.func18, Try.ntmps18
      go_wp2_with (first | (go_at_call 20; (with_reducible refine (r_MemCheck _ c xs _ HW.out ((hL.below (by (repeat' (first | (with_reducible exact Below.refl _ _) | (with_reducible assumption) | (with_reducible refine Below.alloc ?_ ?_ _) | (with_reducible refine Below.drew ?_) | (with_reducible refine Below.setCell ?_ ?_ _) | (refine Below.trans ?_ (Below.mono (by with_reducible assumption) ?_)) | go_size)))).more (by simp only [World.size_alloc]; omega))).mono ?_); intro e w1 hr; obtain ⟨rfl, hb, hc, hf, hz⟩ := hr.use; clear hr hc hf; have hK := KeptB.on (keyB2 k w) hb; clear hb hz; have HK := Lib.hid hK; have hbw := hK.below; have HB0 := Lib.hid (hK.box 0 _ rfl); have c0 := fun o => HB0.out.cell o; have f0 := fun o => HB0.out.frozen o; have z0 := HB0.out.lt; (try dsimp only at c0); have HB1 := Lib.hid (hK.box 1 _ rfl); have c1 := fun o => HB1.out.cell o; have f1 := fun o => HB1.out.frozen o; have z1 := HB1.out.lt; (try dsimp only at c1); (try simp only [Nat.add_zero] at c0 f0 z0); clear hK) | (go_at_call 48; (with_reducible refine (HAT.out _).mono ?_); intro e w2 hr; obtain ⟨rfl, hb, hc, hf, hz⟩ := hr.use; clear hr hc hf; have hK := KeptB.on (HK.out) hb; clear hb hz; have HK := Lib.hid hK; have hbw := hK.below; have HB0 := Lib.hid (hK.box 0 _ rfl); have c0 := fun o => HB0.out.cell o; have f0 := fun o => HB0.out.frozen o; have z0 := HB0.out.lt; (try dsimp only at c0); have HB1 := Lib.hid (hK.box 1 _ rfl); have c1 := fun o => HB1.out.cell o; have f1 := fun o => HB1.out.frozen o; have z1 := HB1.out.lt; (try dsimp only at c1); (try simp only [Nat.add_zero] at c0 f0 z0); clear hK) | (refine wpList_store_box rfl 35 (.tmp 6) _ rfl (HB1.out) rfl rfl (by kernel_rfl) rfl (by simp [Value.oneCell']) ?_; intro w3 hbw3 hgw3 hzw3))
      ((try simp only [Exit.inBlock, Exit.then]); refine bodyPost_ret (results_ct rfl rfl hbw3 Try.underlying35 rfl (by kernel_rfl)) rfl ?_)
      exact Ret.val (q := (Val.zero, rb)) H.out.symm (HK.out.stored hgw3 (by omega))
  · have H := Lib.hid (show loadF xs k off = (Val.zero, memE xs) by unfold loadF; rw [if_pos he])
    go_enter Try.func18, Try.ntmps18
    go_wp2_with (first | (go_at_call 20; (with_reducible refine (r_MemCheck _ c xs _ HW.out ((hL.below (by (repeat' (first | (with_reducible exact Below.refl _ _) | (with_reducible assumption) | (with_reducible refine Below.alloc ?_ ?_ _) | (with_reducible refine Below.drew ?_) | (with_reducible refine Below.setCell ?_ ?_ _) | (refine Below.trans ?_ (Below.mono (by with_reducible assumption) ?_)) | go_size)))).more (by simp only [World.size_alloc]; omega))).mono ?_); intro e w1 hr; obtain ⟨rfl, hb, hc, hf, hz⟩ := hr.use; clear hr hc hf; have hK := KeptB.on (keyB2 k w) hb; clear hb hz; have HK := Lib.hid hK; have hbw := hK.below; have HB0 := Lib.hid (hK.box 0 _ rfl); have c0 := fun o => HB0.out.cell o; have f0 := fun o => HB0.out.frozen o; have z0 := HB0.out.lt; (try dsimp only at c0); have HB1 := Lib.hid (hK.box 1 _ rfl); have c1 := fun o => HB1.out.cell o; have f1 := fun o => HB1.out.frozen o; have z1 := HB1.out.lt; (try dsimp only at c1); (try simp only [Nat.add_zero] at c0 f0 z0); clear hK) | (refine wpList_store_box rfl 35 (.tmp 6) _ rfl (HB1.out) rfl rfl (by kernel_rfl) rfl (by simp [Value.oneCell']) ?_; intro w3 hbw3 hgw3 hzw3))
    ((try simp only [Exit.inBlock, Exit.then]); refine bodyPost_ret (results_ct rfl rfl hbw3 Try.underlying35 rfl (by kernel_rfl)) rfl ?_)
    exact Ret.val (q := (Val.zero, memE xs)) H.out.symm (HK.out.stored hgw3 (by omega))
end Go.Proofs.Ytnbppchpgagliaa
