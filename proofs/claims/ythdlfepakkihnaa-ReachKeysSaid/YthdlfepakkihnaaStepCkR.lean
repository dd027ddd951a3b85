/- The contract of the reference's StepCheck: it returns the same plain function of a machine. Conditions: the numbers are numbers of 64 bits. -/
import Derived.Test.YthdlfepakkihnaaStepCk
namespace Go.Proofs.Ythdlfepakkihnaa
open Go.RowKit
set_option linter.unusedVariables false
set_option linter.unusedSimpArgs false
set_option maxRecDepth 100000

theorem inR_wr (n : Int) : inR n (-2147483648) 2147483647 = !(n != wr n) := by
  rw [Bool.eq_iff_iff, inR_iff, bne, Bool.not_not, beq_iff_eq]
  constructor
  · rintro ⟨h1, h2⟩; rw [wr_eq h1 h2]
  · intro h; have := wr_lo n; have := wr_hi n; omega
theorem regs_lies {W : World} {g B : Nat} {t : TypeId} {mc : Array Value} {regs : List Val} (hb : Box W g t mc) (hreg : ∀ i v, regs[i]? = some v → ∀ j, j < 7 → mc[i * 7 + j]? = (encV v)[j]?) (hB : g < B) : Lies encV 7 W B (some ⟨g, 0, none⟩) regs :=
  fun _ => ⟨g, 0, rfl, hB, fun i v hv j hj => by rw [Nat.zero_add, hb.cell]; exact hreg i v hv j hj⟩
theorem wf_key {k : Key} (h : k.Wf) : (Val.mk true 0 k).Wf := ⟨by simp [i64], h⟩
theorem frameE_ref (f : Frame) : frameE f = seqE (valE ⟨true, 0, f.code⟩) (valE f.data) := by unfold frameE; rw [valE_key]
theorem KeptB.grown_ {w W W' : World} {bs : List (Array Value × TypeId)} {row : Option Nat} (h : KeptB w bs W) (hg : W.grownBy W' row) (hr : ∀ k, row = some k → w.heap.size + bs.length ≤ k) : KeptB w bs W' :=
  ⟨h.below.grown hg (Nat.le_trans (Nat.le_add_right _ _) h.size) (fun k hk => Nat.le_trans (Nat.le_add_right _ _) (hr k hk)), Nat.le_trans h.size hg.size, fun i c hi => (h.box i c hi).grown hg (fun he => by
    have h1 := hr _ he.symm
    have h2 := (List.getElem?_eq_some_iff.1 hi).1
    omega)⟩
theorem KeptB.below_ {w W W' : World} {bs : List (Array Value × TypeId)} (h : KeptB w bs W) (hb : Below W.heap.size W W') : KeptB w bs W' := h.on hb
/-- a frame and the two values made of it -/
theorem frameTwo (fr two : Array Value) (W : World) : KeptB W [(fr, 77), (two, 25)] ((W.alloc (.cells fr 77)).alloc (.cells two 25)) :=
  ((KeptB.nil_ (Below.refl _ W)).more (t := 77) (cs := fr) rfl).more (t := 25) (cs := two) (by rw [World.size_alloc]; rfl)
set_option maxHeartbeats 4000000 in
theorem r_StepCheck (mc : Array Value) (m : Mach) (hwf : m.Wf) (w : World) (hm : MachV w w.heap.size mc m) :
    Calls Try.prog 10 #[.agg mc] w (Ret (.int .i64 (machE m)) w) := by
  obtain ⟨A, S, O, a, s, o, m56, m57, m58, m59, m60, m61, m62, m63, -, -, hs1, hs2, ho1, ho2, hLm, hLs, hLo, hreg⟩ := hm.cells
  have hr8 := hm.regs
  have HWF := Lib.hid hwf
  have HREG := Lib.hid hreg
  have HLM := Lib.hid hLm
  have HLS := Lib.hid hLs
  have HLO := Lib.hid hLo
  have HR8 := Lib.hid hr8
  clear hwf hm hreg hLm hLs hLo hr8
  have E0 := machE_ref m
  generalize machE m = R at E0
  obtain ⟨al, hal⟩ : ∃ al, al = m.regs ++ [Val.mk true 0 m.code] := ⟨_, rfl⟩
  rw [← hal] at E0
  have hal9 : al.length = 9 := by rw [hal, List.length_append, HR8.out]; rfl
  have HALW := Lib.hid (show ∀ (i : Nat) v, al[i]? = some v → Val.Wf v from fun i v hv => by
    rw [hal] at hv
    rcases Nat.lt_or_ge i m.regs.length with h | h
    · rw [List.getElem?_append_left h] at hv; exact HWF.out.regs i v hv
    · rw [List.getElem?_append_right h] at hv
      have := (List.getElem?_eq_some_iff.1 hv).1
      simp only [List.length_cons, List.length_nil] at this
      have h0 : i - m.regs.length = 0 := by omega
      rw [h0] at hv
      cases hv
      exact wf_key HWF.out.code)
  obtain ⟨REST, hrest⟩ : ∃ REST, REST = (seqE (memE m.mem) (if 16 < m.stack.length then 2 else seqE (firstE frameE m.stack) (if 100 < m.out.length then 2 else firstE numE m.out))) := ⟨_, rfl⟩
  rw [← hrest] at E0
  have HREST := Lib.hid hrest
  have E0 := Lib.hid E0
  clear hrest
  have HAL := Lib.hid hal
  have HAL9 := Lib.hid hal9
  clear hal hal9
  go_enter Try.func10, Try.ntmps10
  have HK0 := Lib.hid (machB mc w)
  have c0 := fun o => (HK0.out.box 0 _ rfl).cell o
  simp only [Nat.add_zero] at c0
  go_wp2_with (first | (at_builtin; refine wpList_app rfl _ _ rfl el_V (Own.nil_ (base := w.heap.size + 1)) (ys := m.regs) (regs_lies (HK0.out.box 0 _ rfl) HREG.out (Nat.lt_succ_self _)) rfl HR8.out rfl (by rw [HR8.out]; decide) (by rw [HR8.out]; decide) (by ((try simp only [World.size_alloc, World.size_setCell, World.size_drew]) <;> omega)) ?_; intro v1 w1 hO1 hg1 hat1; have HK1 := Lib.hid (HK0.out.on (Below.grown (Below.refl _ _) hg1 (Nat.le_refl _) (fun k hk => by simp [Value.ownBlock] at hk))); have z1 := hg1.size; simp only [World.size_alloc] at z1; clear c0; have c0 := fun o => (HK1.out.box 0 _ rfl).cell o; simp only [Nat.add_zero] at c0; have HO1 := Lib.hid hO1; clear hO1 hg1 hat1; dsimp only) | (at_builtin; refine wpList_app rfl _ _ rfl el_V (HO1.out.alloc _) (ys := [Val.mk true 0 m.code]) (Lies.one (enc := encV) _ _ _ (Val.mk true 0 m.code) rfl (fun j hj => by rw [List.getElem?_toArray]; rfl)) rfl rfl rfl (by simp only [List.nil_append, List.length_cons, List.length_nil]; rw [HR8.out]; decide) (by simp only [List.nil_append, List.length_cons, List.length_nil]; rw [HR8.out]; decide) (by ((try simp only [World.size_alloc, World.size_setCell, World.size_drew]) <;> omega)) ?_; intro v2 w2 hO2 hg2 hat2; have HK2 := Lib.hid ((HK1.out.alloc _).grown_ hg2 (fun k hk => (HO1.out.lt k hk).1)); rw [List.nil_append, ← HAL.out] at hO2; obtain ⟨A2, c2, rfl, hL2⟩ := hO2.lies (fun _ => rfl); have HL2 := Lib.hid hL2; clear hO2 hL2 hg2 hat2 c0; have HAL9 := HAL9; dsimp only) | fail)
  go_loopw [5, 6, 27] (fun _ _ v wr => ∃ k : Nat, v = .int .i64 k ∧ k ≤ al.length ∧ R = seqE (firstFrom valE al k) REST ∧ Below w2.heap.size w2 wr) (fun _ _ v _ => (al.length - intOf v).toNat)
  case atStart => exact ⟨0, rfl, by omega, E0.out, Below.refl _ _⟩
  case round =>
    obtain ⟨k, rfl, hk, he, hbx⟩ := hrel
    have HF := Lib.hid he
    have HB := Lib.hid hbx
    clear he E0 HK0 HK1 HO1
    rcases Nat.lt_or_ge k al.length with hlt | hge
    · obtain ⟨b, oo, v, hSA, hb, hp, q0, q1, q2, q3, q4, q5, q6⟩ := (HL2.out.below hbx).cellsV hlt
      subst hSA
      have HV := Lib.hid hp
      have hk9 : k < 9 := (by have := HAL9.out; omega)
      clear hp
      cases hm : (valE v != 0)
      · have H := Lib.hid (HF.out.trans (by rw [firstFrom_ok HV.out hm]))
        go_wp2_with (go_at_call 28; (with_reducible refine (r_CellCheck v (HALW.out _ _ HV.out) _).mono ?_); intro e w3 hr; obtain ⟨rfl, hb, hc, hf, hz⟩ := hr.use; clear hr hc hf; have hK := KeptB.on ((KeptB.nil_ HB.out).alloc _) hb; clear hb hz; have HK := Lib.hid hK; have hbw := hK.below; clear hK)
        go_roundw
        case rel => exact ⟨k + 1, by go_num, (by have := HAL9.out; omega), H.out, HK.out.below⟩
        case measure => (have := HAL9.out; simp [intOf]; omega)
      · have H := Lib.hid (HF.out.trans (by rw [firstFrom_no HV.out hm, seqE_no hm]))
        go_wp2_with (go_at_call 28; (with_reducible refine (r_CellCheck v (HALW.out _ _ HV.out) _).mono ?_); intro e w3 hr; obtain ⟨rfl, hb, hc, hf, hz⟩ := hr.use; clear hr hc hf; have hK := KeptB.on ((KeptB.nil_ HB.out).alloc _) hb; clear hb hz; have HK := Lib.hid hK; have hbw := hK.below; clear hK)
        go_returns
        exact Ret.int H.out.symm (HK2.out.on hbw).below
    · have E2 := Lib.hid (HF.out.trans (by rw [firstFrom_end hge, seqE_ok rfl, HREST.out]))
      have hK := HK2.out.on HB.out
      clear HF HK2 HB hbx HL2
      have HKM := Lib.hid hK
      clear hK
      have hbw := HKM.out.below
      have c0 := fun o => (HKM.out.box 0 _ rfl).cell o
      have z0 := (HKM.out.box 0 _ rfl).lt
      simp only [Nat.add_zero] at c0 z0
      obtain rfl : k = 9 := (by have := HAL9.out; omega)
      cases hmm : (memE m.mem != 0)
      · have E3 := Lib.hid (E2.out.trans (by rw [seqE_ok hmm]))
        clear E2
        by_cases hst : 16 < m.stack.length
        · have H := Lib.hid (E3.out.trans (by rw [if_pos hst]))
          go_wp2_with (go_at_call 29; (with_reducible refine (r_MemCheck A a m.mem _ HWF.out.mem ((HLM.out.below hbw).more (by omega))).mono ?_); intro e w3 hr; obtain ⟨rfl, hb, hc, hf, hz⟩ := hr.use; clear hr hc hf; have hK := KeptB.on (HKM.out) hb; clear hb hz; have HK := Lib.hid hK; have hbw := hK.below; have HB0 := Lib.hid (hK.box 0 _ rfl); have c0 := fun o => HB0.out.cell o; have f0 := fun o => HB0.out.frozen o; have z0 := HB0.out.lt; (try dsimp only at c0); (try simp only [Nat.add_zero] at c0 f0 z0); clear hK)
          go_returns
          exact Ret.int H.out.symm hbw
        · have E4 := Lib.hid (E3.out.trans (by rw [if_neg hst]))
          have hst' : m.stack.length ≤ 16 := by omega
          clear hst E3
          go_wp2_with (go_at_call 29; (with_reducible refine (r_MemCheck A a m.mem _ HWF.out.mem ((HLM.out.below hbw).more (by omega))).mono ?_); intro e w3 hr; obtain ⟨rfl, hb, hc, hf, hz⟩ := hr.use; clear hr hc hf; have hK := KeptB.on (HKM.out) hb; clear hb hz; have HK := Lib.hid hK; have hbw := hK.below; have HB0 := Lib.hid (hK.box 0 _ rfl); have c0 := fun o => HB0.out.cell o; have f0 := fun o => HB0.out.frozen o; have z0 := HB0.out.lt; (try dsimp only at c0); (try simp only [Nat.add_zero] at c0 f0 z0); clear hK)
          go_loopw [9, 11, 12, 50] (fun _ _ _ v wr => ∃ k : Nat, v = .int .i64 k ∧ k ≤ m.stack.length ∧ R = seqE (firstFrom frameE m.stack k) (if 100 < m.out.length then 2 else firstE numE m.out) ∧ KeptB w [(mc, 31)] wr) (fun _ _ _ v _ => (m.stack.length - intOf v).toNat)
          case atStart => exact ⟨0, rfl, by omega, E4.out, HK.out⟩
          case round =>
            obtain ⟨k, rfl, hk, he, hK⟩ := hrel
            clear E4 HK hbw HB0 c0 f0 z0 E0 HKM
            (skip; have HK := Lib.hid hK; have hbw := hK.below; have HB0 := Lib.hid (hK.box 0 _ rfl); have c0 := fun o => HB0.out.cell o; have f0 := fun o => HB0.out.frozen o; have z0 := HB0.out.lt; (try dsimp only at c0); (try simp only [Nat.add_zero] at c0 f0 z0); clear hK)
            have HF := Lib.hid he
            clear he
            rcases Nat.lt_or_ge k m.stack.length with hlt | hge
            · obtain ⟨b, oo, p, hSA, hb, hp, q0, q1, q2, q3, q4, q5, q6, q7, q8, q9, q10, q11⟩ := (HLS.out.below hbw).cellsF hlt
              subst hSA
              have HP := Lib.hid hp
              clear hp c0 f0 m61 m62 m63
              have hpw := HWF.out.stack _ _ HP.out
              have HC := Lib.hid (wf_key hpw.code)
              have HD := Lib.hid hpw.data
              clear hpw
              go_wp2
              refine wp_loop_rounds 3 ?_
              rw [rounds_succ]
              cases h1 : (valE ⟨true, 0, p.code⟩ != 0)
              · go_wp2_with ((go_at_call 28; (with_reducible refine (r_CellCheck ⟨true, 0, p.code⟩ HC.out _).mono ?_); intro e w4 hr; obtain ⟨rfl, hb, hc, hf, hz⟩ := hr.use; (try simp only [World.size_alloc, World.size_setCell, World.size_drew] at hz); clear hr; have c0 := fun o => hc (wr.heap.size + 1) o (by (try simp only [World.size_alloc, World.size_setCell, World.size_drew]); omega); have f0 := fun o => hf (wr.heap.size + 1) o (by (try simp only [World.size_alloc, World.size_setCell, World.size_drew]); omega); have z0 : wr.heap.size + 1 < w4.heap.size := (by (try simp only [World.size_alloc, World.size_setCell, World.size_drew]); omega); clear hc hf; simp only [go_sem, World.size_alloc, *] at c0 f0); have HK4 := Lib.hid ((((HK.out.alloc _).alloc _).alloc _).on hb))
                rw [rounds_succ]
                cases h2 : (valE p.data != 0)
                · have H := Lib.hid (HF.out.trans (by rw [firstFrom_ok HP.out (by rw [frameE_ref, seqE_ok h1]; exact h2)]))
                  go_wp2_with ((go_at_call 28; (with_reducible refine (r_CellCheck p.data HD.out _).mono ?_); intro e w5 hr; obtain ⟨rfl, hb, hc, hf, hz⟩ := hr.use; (try simp only [World.size_alloc, World.size_setCell, World.size_drew] at hz); clear hr; have c0 := fun o => hc (wr.heap.size + 1) o (by (try simp only [World.size_alloc, World.size_setCell, World.size_drew]); omega); have f0 := fun o => hf (wr.heap.size + 1) o (by (try simp only [World.size_alloc, World.size_setCell, World.size_drew]); omega); have z0 : wr.heap.size + 1 < w5.heap.size := (by (try simp only [World.size_alloc, World.size_setCell, World.size_drew]); omega); clear hc hf; simp only [go_sem, World.size_alloc, *] at c0 f0); have HK5 := Lib.hid ((HK4.out.alloc _).on hb))
                  rw [rounds_succ]
                  go_wp2
                  go_roundw
                  case rel => exact ⟨k + 1, by go_num, by omega, H.out, HK5.out⟩
                  case measure => simp [intOf]; omega
                · have H := Lib.hid (show R = valE p.data from HF.out.trans (by rw [firstFrom_no HP.out (by rw [frameE_ref, seqE_ok h1]; exact h2), seqE_no (by rw [frameE_ref, seqE_ok h1]; exact h2), frameE_ref, seqE_ok h1]))
                  go_wp2_with ((go_at_call 28; (with_reducible refine (r_CellCheck p.data HD.out _).mono ?_); intro e w5 hr; obtain ⟨rfl, hb, hc, hf, hz⟩ := hr.use; (try simp only [World.size_alloc, World.size_setCell, World.size_drew] at hz); clear hr; have c0 := fun o => hc (wr.heap.size + 1) o (by (try simp only [World.size_alloc, World.size_setCell, World.size_drew]); omega); have f0 := fun o => hf (wr.heap.size + 1) o (by (try simp only [World.size_alloc, World.size_setCell, World.size_drew]); omega); have z0 : wr.heap.size + 1 < w5.heap.size := (by (try simp only [World.size_alloc, World.size_setCell, World.size_drew]); omega); clear hc hf; simp only [go_sem, World.size_alloc, *] at c0 f0); have HK5 := Lib.hid ((HK4.out.alloc _).on hb))
                  go_returns
                  exact Ret.int H.out.symm HK5.out.below
              · have H := Lib.hid (show R = valE ⟨true, 0, p.code⟩ from HF.out.trans (by rw [firstFrom_no HP.out (by rw [frameE_ref, seqE_no h1]; exact h1), seqE_no (by rw [frameE_ref, seqE_no h1]; exact h1), frameE_ref, seqE_no h1]))
                go_wp2_with ((go_at_call 28; (with_reducible refine (r_CellCheck ⟨true, 0, p.code⟩ HC.out _).mono ?_); intro e w4 hr; obtain ⟨rfl, hb, hc, hf, hz⟩ := hr.use; (try simp only [World.size_alloc, World.size_setCell, World.size_drew] at hz); clear hr; have c0 := fun o => hc (wr.heap.size + 1) o (by (try simp only [World.size_alloc, World.size_setCell, World.size_drew]); omega); have f0 := fun o => hf (wr.heap.size + 1) o (by (try simp only [World.size_alloc, World.size_setCell, World.size_drew]); omega); have z0 : wr.heap.size + 1 < w4.heap.size := (by (try simp only [World.size_alloc, World.size_setCell, World.size_drew]); omega); clear hc hf; simp only [go_sem, World.size_alloc, *] at c0 f0); have HK4 := Lib.hid ((((HK.out.alloc _).alloc _).alloc _).on hb))
                go_returns
                exact Ret.int H.out.symm HK4.out.below
            · have E5 := Lib.hid (HF.out.trans (by rw [firstFrom_end hge, seqE_ok rfl]))
              clear HF
              by_cases hot : 100 < m.out.length
              · have H := Lib.hid (E5.out.trans (by rw [if_pos hot]))
                go_wp2
                go_returns
                exact Ret.int H.out.symm hbw
              · have E6 := Lib.hid (E5.out.trans (by rw [if_neg hot]))
                have hot' : m.out.length ≤ 100 := by omega
                clear hot E5
                go_wp2
                go_loopw [14, 79] (fun _ v wr => ∃ k : Nat, v = .int .i64 k ∧ k ≤ m.out.length ∧ R = firstFrom numE m.out k ∧ Below w.heap.size w wr) (fun _ v _ => (m.out.length - intOf v).toNat)
                case atStart => exact ⟨0, rfl, by omega, E6.out, hbw⟩
                case round =>
                  obtain ⟨k, rfl, hk, he, hbx⟩ := hrel
                  clear E6 HK hbw HB0 c0 f0 z0
                  have HF := Lib.hid he
                  clear he
                  rcases Nat.lt_or_ge k m.out.length with hlt | hge
                  · obtain ⟨b, oo, n, hOA, hb, hp, q0⟩ := (HLO.out.below hbx).cellsI hlt
                    subst hOA
                    have HP := Lib.hid hp
                    have HN := inR_wr n
                    clear hp
                    cases h1 : (n != Go.Proofs.Ythdlfepakkihnaa.wr n)
                    · have H := Lib.hid (show R = firstFrom numE m.out (k + 1) from HF.out.trans (firstFrom_ok HP.out (numE_ok h1)))
                      rw [h1] at HN
                      go_wp2_with (go_at_call 30; (with_reducible refine (r_IsNumber _ _).mono ?_); rintro e w1 ⟨rfl, rfl⟩)
                      go_roundw
                      case rel => exact ⟨k + 1, by go_num, by omega, H.out, hbx⟩
                      case measure => simp [intOf]; omega
                    · have H := Lib.hid (show R = 1 from HF.out.trans ((firstFrom_no HP.out (numE_no h1)).trans (numE_one h1)))
                      rw [h1] at HN
                      go_wp2_with (go_at_call 30; (with_reducible refine (r_IsNumber _ _).mono ?_); rintro e w1 ⟨rfl, rfl⟩)
                      go_returns
                      exact Ret.int H.out.symm hbx
                  · have H := Lib.hid (HF.out.trans (firstFrom_end hge))
                    go_wp2
                    go_returns
                    exact Ret.int H.out.symm hbx
      · have H := Lib.hid (E2.out.trans (by rw [seqE_no hmm]))
        go_wp2_with (go_at_call 29; (with_reducible refine (r_MemCheck A a m.mem _ HWF.out.mem ((HLM.out.below hbw).more (by omega))).mono ?_); intro e w3 hr; obtain ⟨rfl, hb, hc, hf, hz⟩ := hr.use; clear hr hc hf; have hK := KeptB.on (HKM.out) hb; clear hb hz; have HK := Lib.hid hK; have hbw := hK.below; have HB0 := Lib.hid (hK.box 0 _ rfl); have c0 := fun o => HB0.out.cell o; have f0 := fun o => HB0.out.frozen o; have z0 := HB0.out.lt; (try dsimp only at c0); (try simp only [Nat.add_zero] at c0 f0 z0); clear hK)
        go_returns
        exact Ret.int H.out.symm hbw
end Go.Proofs.Ythdlfepakkihnaa
