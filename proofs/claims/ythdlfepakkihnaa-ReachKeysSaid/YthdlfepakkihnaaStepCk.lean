/- The contract of step.Check: it returns a plain function of a machine. Conditions: none. -/
import Derived.Test.YthdlfepakkihnaaMach
namespace Go.Proofs.Ythdlfepakkihnaa
open Go.RowKit
set_option linter.unusedVariables false
set_option linter.unusedSimpArgs false
set_option maxRecDepth 100000

theorem numE_no {n : Int} (h : (n != wr n) = true) : (numE n != 0) = true := by unfold numE; rw [if_neg (by simpa [bne] using h)]; rfl
theorem numE_ok {n : Int} (h : (n != wr n) = false) : (numE n != 0) = false := by unfold numE; rw [if_pos (by simpa [bne] using h)]; rfl
theorem numE_one {n : Int} (h : (n != wr n) = true) : numE n = 1 := by unfold numE; rw [if_neg (by simpa [bne] using h)]
theorem machB (mc : Array Value) (w : World) : KeptB w [(mc, 31)] (w.alloc (.cells mc 31)) := (KeptB.nil_ (Below.refl _ w)).more (t := 31) (cs := mc) rfl
theorem run_index_regs {regs : List Val} {i : Nat} {v : Val} (hl : regs.length = 8) (hv : regs[i]? = some v) {rl : List Value} (hr : rl = regs.flatMap encV) (w : World) :
    (Instr.index 26 (.agg rl.toArray) (.int .i64 i)).run Try.prog w = .ok (.agg #[.bool v.is, .int .i64 v.n, .int .i64 v.key.perm, .int .i64 v.key.base, .int .i64 v.key.len, .int .i64 v.key.pos, .int .i64 v.key.tag]) w := by
  have hi : i < 8 := by have := (List.getElem?_eq_some_iff.1 hv).1; omega
  have hlen := flat_len (xs := regs) (enc := encV) (size := 7) (fun _ => rfl)
  have he : (rl.drop (i * 7)).take 7 = [.bool v.is, .int .i64 v.n, .int .i64 v.key.perm, .int .i64 v.key.base, .int .i64 v.key.len, .int .i64 v.key.pos, .int .i64 v.key.tag] := by
    apply List.ext_getElem?
    intro j
    rw [List.getElem?_take, List.getElem?_drop]
    by_cases hj : j < 7
    · rw [if_pos hj]
      have := flat_at (enc := encV) (size := 7) (j := j) (fun _ => rfl) hv hj
      rw [hr, this]; rfl
    · rw [if_neg hj, List.getElem?_eq_none (by simp; omega)]
  simp [Instr.index, asIntOf, run_underlying Try.underlying26, part, Try.isAgg25, Try.sizeOf25, he, hi]
set_option maxHeartbeats 4000000 in
theorem c_step_Check (mc : Array Value) (m : Mach) (w : World) (hm : MachV w w.heap.size mc m) :
    Calls Try.prog 76 #[.agg mc] w (Ret (.int .i64 (machE m)) w) := by
  obtain ⟨A, S, O, a, s, o, m56, m57, m58, m59, m60, m61, m62, m63, -, -, hs1, hs2, ho1, ho2, hLm, hLs, hLo, hreg⟩ := hm.cells
  have hr8 := hm.regs
  have HREG := Lib.hid hreg
  have HLM := Lib.hid hLm
  have HLS := Lib.hid hLs
  have HLO := Lib.hid hLo
  clear hm hreg hLm hLs hLo
  obtain ⟨rl, hrl⟩ : ∃ rl : List Value, rl = m.regs.flatMap encV := ⟨_, rfl⟩
  have hrlen : rl.length = 56 := by rw [hrl, flat_len (enc := encV) (size := 7) (fun _ => rfl), hr8]
  have HRL := Lib.hid hrl
  have HRLEN := Lib.hid hrlen
  have HR8 := Lib.hid hr8
  clear hrl hrlen hr8
  have HRANGE := Lib.hid (show ∀ j v, rl[j]? = some v → mc[j]? = some v from fun j v hj => by
    rw [HRL.out] at hj
    obtain ⟨i, x, hx, hn, hu⟩ := flat_split (enc := encV) (size := 7) (fun _ => rfl) (by decide) hj
    have := HREG.out i x hx (j % 7) (Nat.mod_lt _ (by decide))
    rw [← hn] at this
    rw [this]; exact hu)
  have E0 := Lib.hid (show machE m = seqE (firstFrom valE m.regs 0) (seqE (keyE m.code) (seqE (memE m.mem) (if 16 < m.stack.length then 2 else seqE (firstE frameE m.stack) (if 100 < m.out.length then 2 else firstE numE m.out)))) from rfl)
  generalize machE m = R at E0
  go_enter Try.func76, Try.ntmps76
  have HK0 := Lib.hid (machB mc w)
  go_wp2_with (refine wpList_load_mid rfl 26 (.tmp 14) rfl w.heap.size 0 rfl rl _ (fun j v hj => by rw [Nat.zero_add]; exact ((HK0.out.box 0 _ rfl).cell j).trans (HRANGE.out j v hj)) Try.underlying26 rfl (by rw [HRLEN.out]; kernel_rfl) ?_)
  go_loopw [4, 5, 16] (fun _ _ v wr => ∃ k : Nat, v = .int .i64 k ∧ k ≤ 8 ∧ R = seqE (firstFrom valE m.regs k) (seqE (keyE m.code) (seqE (memE m.mem) (if 16 < m.stack.length then 2 else seqE (firstE frameE m.stack) (if 100 < m.out.length then 2 else firstE numE m.out)))) ∧ KeptB w [(mc, 31)] wr) (fun _ _ v _ => (8 - intOf v).toNat)
  case atStart => exact ⟨0, rfl, by omega, E0.out, HK0.out⟩
  case round =>
    obtain ⟨k, rfl, hk, he, hK⟩ := hrel
    (skip; have HK := Lib.hid hK; have hbw := hK.below; have HB0 := Lib.hid (hK.box 0 _ rfl); have c0 := fun o => HB0.out.cell o; have f0 := fun o => HB0.out.frozen o; have z0 := HB0.out.lt; (try dsimp only at c0); (try simp only [Nat.add_zero] at c0 f0 z0); clear hK)
    have HF := Lib.hid he
    clear he HK0 E0
    rcases Nat.lt_or_ge k 8 with hlt | hge
    · obtain ⟨v, hv⟩ : ∃ v, m.regs[k]? = some v := ⟨_, List.getElem?_eq_getElem (by rw [HR8.out]; exact hlt)⟩
      have hix := run_index_regs HR8.out hv HRL.out
      have HV := Lib.hid hv
      clear hv
      cases hm : (valE v != 0)
      · have H := Lib.hid (HF.out.trans (by rw [firstFrom_ok HV.out hm]))
        go_wp2_with (go_at_call 91; (with_reducible refine (c_cell_Check v _).mono ?_); intro e w1 hr; obtain ⟨rfl, hb, hc, hf, hz⟩ := hr.use; clear hr hc hf; have hK := KeptB.on (HK.out.alloc _) hb; clear hb hz; have HK := Lib.hid hK; have hbw := hK.below; have HB0 := Lib.hid (hK.box 0 _ rfl); have c0 := fun o => HB0.out.cell o; have f0 := fun o => HB0.out.frozen o; have z0 := HB0.out.lt; (try dsimp only at c0); (try simp only [Nat.add_zero] at c0 f0 z0); clear hK)
        go_roundw
        case rel => exact ⟨k + 1, by go_num, by omega, H.out, HK.out⟩
        case measure => simp [intOf]; omega
      · have H := Lib.hid (HF.out.trans (by rw [firstFrom_no HV.out hm, seqE_no hm]))
        go_wp2_with (go_at_call 91; (with_reducible refine (c_cell_Check v _).mono ?_); intro e w1 hr; obtain ⟨rfl, hb, hc, hf, hz⟩ := hr.use; clear hr hc hf; have hK := KeptB.on (HK.out.alloc _) hb; clear hb hz; have HK := Lib.hid hK; have hbw := hK.below; have HB0 := Lib.hid (hK.box 0 _ rfl); have c0 := fun o => HB0.out.cell o; have f0 := fun o => HB0.out.frozen o; have z0 := HB0.out.lt; (try dsimp only at c0); (try simp only [Nat.add_zero] at c0 f0 z0); clear hK)
        go_returns
        exact Ret.int H.out.symm hbw
    · obtain rfl : k = 8 := by omega
      have E1 := Lib.hid (HF.out.trans (by rw [firstFrom_end (by rw [HR8.out]; exact Nat.le_refl _), seqE_ok rfl]))
      clear HF
      cases hc : (keyE m.code != 0)
      · have E2 := Lib.hid (E1.out.trans (by rw [seqE_ok hc]))
        cases hmm : (memE m.mem != 0)
        · have E3 := Lib.hid (E2.out.trans (by rw [seqE_ok hmm]))
          by_cases hst : 16 < m.stack.length
          · have H := Lib.hid (E3.out.trans (by rw [if_pos hst]))
            go_wp2_with (first | (go_at_call 92; (with_reducible refine (c_keys_Check m.code _).mono ?_); intro e w1 hr; obtain ⟨rfl, hb, hc, hf, hz⟩ := hr.use; clear hr hc hf; have hK := KeptB.on (HK.out) hb; clear hb hz; have HK := Lib.hid hK; have hbw := hK.below; have HB0 := Lib.hid (hK.box 0 _ rfl); have c0 := fun o => HB0.out.cell o; have f0 := fun o => HB0.out.frozen o; have z0 := HB0.out.lt; (try dsimp only at c0); (try simp only [Nat.add_zero] at c0 f0 z0); clear hK) | (go_at_call 93; (with_reducible refine (c_mem_Check A a m.mem _ ((HLM.out.below hbw).more (by omega))).mono ?_); intro e w2 hr; obtain ⟨rfl, hb, hc, hf, hz⟩ := hr.use; clear hr hc hf; have hK := KeptB.on (HK.out) hb; clear hb hz; have HK := Lib.hid hK; have hbw := hK.below; have HB0 := Lib.hid (hK.box 0 _ rfl); have c0 := fun o => HB0.out.cell o; have f0 := fun o => HB0.out.frozen o; have z0 := HB0.out.lt; (try dsimp only at c0); (try simp only [Nat.add_zero] at c0 f0 z0); clear hK))
            go_returns
            exact Ret.int H.out.symm hbw
          · have E4 := Lib.hid (E3.out.trans (by rw [if_neg hst]))
            have hst' : m.stack.length ≤ 16 := by omega
            clear hst E1 E2 E3
            go_wp2_with (first | (go_at_call 92; (with_reducible refine (c_keys_Check m.code _).mono ?_); intro e w1 hr; obtain ⟨rfl, hb, hc, hf, hz⟩ := hr.use; clear hr hc hf; have hK := KeptB.on (HK.out) hb; clear hb hz; have HK := Lib.hid hK; have hbw := hK.below; have HB0 := Lib.hid (hK.box 0 _ rfl); have c0 := fun o => HB0.out.cell o; have f0 := fun o => HB0.out.frozen o; have z0 := HB0.out.lt; (try dsimp only at c0); (try simp only [Nat.add_zero] at c0 f0 z0); clear hK) | (go_at_call 93; (with_reducible refine (c_mem_Check A a m.mem _ ((HLM.out.below hbw).more (by omega))).mono ?_); intro e w2 hr; obtain ⟨rfl, hb, hc, hf, hz⟩ := hr.use; clear hr hc hf; have hK := KeptB.on (HK.out) hb; clear hb hz; have HK := Lib.hid hK; have hbw := hK.below; have HB0 := Lib.hid (hK.box 0 _ rfl); have c0 := fun o => HB0.out.cell o; have f0 := fun o => HB0.out.frozen o; have z0 := HB0.out.lt; (try dsimp only at c0); (try simp only [Nat.add_zero] at c0 f0 z0); clear hK))
            go_loopw [9, 10, 11, 44] (fun _ _ _ v wr => ∃ k : Nat, v = .int .i64 k ∧ k ≤ m.stack.length ∧ R = seqE (firstFrom frameE m.stack k) (if 100 < m.out.length then 2 else firstE numE m.out) ∧ KeptB w [(mc, 31)] wr) (fun _ _ _ v _ => (m.stack.length - intOf v).toNat)
            case atStart => exact ⟨0, rfl, by omega, E4.out, HK.out⟩
            case round =>
              obtain ⟨k, rfl, hk, he, hK⟩ := hrel
              clear E4 HK hbw HB0 c0 f0 z0
              (skip; have HK := Lib.hid hK; have hbw := hK.below; have HB0 := Lib.hid (hK.box 0 _ rfl); have c0 := fun o => HB0.out.cell o; have f0 := fun o => HB0.out.frozen o; have z0 := HB0.out.lt; (try dsimp only at c0); (try simp only [Nat.add_zero] at c0 f0 z0); clear hK)
              have HF := Lib.hid he
              clear he
              rcases Nat.lt_or_ge k m.stack.length with hlt | hge
              · obtain ⟨b, oo, p, hSA, hb, hp, q0, q1, q2, q3, q4, q5, q6, q7, q8, q9, q10, q11⟩ := (HLS.out.below hbw).cellsF hlt
                subst hSA
                have HP := Lib.hid hp
                clear hp
                cases h1 : (keyE p.code != 0)
                · cases h2 : (valE p.data != 0)
                  · have H := Lib.hid (HF.out.trans (by rw [firstFrom_ok HP.out (by unfold frameE; rw [seqE_ok h1]; exact h2)]))
                    go_wp2_with (first | ((go_at_call 92; (with_reducible refine (c_keys_Check p.code _).mono ?_); intro e w1 hr; obtain ⟨rfl, hb, hc, hf, hz⟩ := hr.use; (try simp only [World.size_alloc, World.size_setCell, World.size_drew] at hz); clear hr; have c0 := fun o => hc (w.heap.size) o (by (try simp only [World.size_alloc, World.size_setCell, World.size_drew]); omega); have f0 := fun o => hf (w.heap.size) o (by (try simp only [World.size_alloc, World.size_setCell, World.size_drew]); omega); have z0 : w.heap.size < w1.heap.size := (by (try simp only [World.size_alloc, World.size_setCell, World.size_drew]); omega); have c1 := fun o => hc (wr.heap.size) o (by (try simp only [World.size_alloc, World.size_setCell, World.size_drew]); omega); have f1 := fun o => hf (wr.heap.size) o (by (try simp only [World.size_alloc, World.size_setCell, World.size_drew]); omega); have z1 : wr.heap.size < w1.heap.size := (by (try simp only [World.size_alloc, World.size_setCell, World.size_drew]); omega); clear hc hf; simp only [go_sem, World.size_alloc, *] at c0 f0 c1 f1); have HK1 := Lib.hid ((HK.out.alloc _).on hb)) | ((go_at_call 91; (with_reducible refine (c_cell_Check p.data _).mono ?_); intro e w2 hr; obtain ⟨rfl, hb, hc, hf, hz⟩ := hr.use; (try simp only [World.size_alloc, World.size_setCell, World.size_drew] at hz); clear hr; have c0 := fun o => hc (w.heap.size) o (by (try simp only [World.size_alloc, World.size_setCell, World.size_drew]); omega); have f0 := fun o => hf (w.heap.size) o (by (try simp only [World.size_alloc, World.size_setCell, World.size_drew]); omega); have z0 : w.heap.size < w2.heap.size := (by (try simp only [World.size_alloc, World.size_setCell, World.size_drew]); omega); clear hc hf; simp only [go_sem, World.size_alloc, *] at c0 f0); have HK2 := Lib.hid (HK1.out.on hb)))
                    go_roundw
                    case rel => exact ⟨k + 1, by go_num, by omega, H.out, HK2.out⟩
                    case measure => simp [intOf]; omega
                  · have H := Lib.hid (show R = valE p.data from HF.out.trans (by rw [firstFrom_no HP.out (by unfold frameE; rw [seqE_ok h1]; exact h2), seqE_no (by unfold frameE; rw [seqE_ok h1]; exact h2)]; unfold frameE; rw [seqE_ok h1]))
                    go_wp2_with (first | ((go_at_call 92; (with_reducible refine (c_keys_Check p.code _).mono ?_); intro e w1 hr; obtain ⟨rfl, hb, hc, hf, hz⟩ := hr.use; (try simp only [World.size_alloc, World.size_setCell, World.size_drew] at hz); clear hr; have c0 := fun o => hc (w.heap.size) o (by (try simp only [World.size_alloc, World.size_setCell, World.size_drew]); omega); have f0 := fun o => hf (w.heap.size) o (by (try simp only [World.size_alloc, World.size_setCell, World.size_drew]); omega); have z0 : w.heap.size < w1.heap.size := (by (try simp only [World.size_alloc, World.size_setCell, World.size_drew]); omega); have c1 := fun o => hc (wr.heap.size) o (by (try simp only [World.size_alloc, World.size_setCell, World.size_drew]); omega); have f1 := fun o => hf (wr.heap.size) o (by (try simp only [World.size_alloc, World.size_setCell, World.size_drew]); omega); have z1 : wr.heap.size < w1.heap.size := (by (try simp only [World.size_alloc, World.size_setCell, World.size_drew]); omega); clear hc hf; simp only [go_sem, World.size_alloc, *] at c0 f0 c1 f1); have HK1 := Lib.hid ((HK.out.alloc _).on hb)) | ((go_at_call 91; (with_reducible refine (c_cell_Check p.data _).mono ?_); intro e w2 hr; obtain ⟨rfl, hb, hc, hf, hz⟩ := hr.use; (try simp only [World.size_alloc, World.size_setCell, World.size_drew] at hz); clear hr; have c0 := fun o => hc (w.heap.size) o (by (try simp only [World.size_alloc, World.size_setCell, World.size_drew]); omega); have f0 := fun o => hf (w.heap.size) o (by (try simp only [World.size_alloc, World.size_setCell, World.size_drew]); omega); have z0 : w.heap.size < w2.heap.size := (by (try simp only [World.size_alloc, World.size_setCell, World.size_drew]); omega); clear hc hf; simp only [go_sem, World.size_alloc, *] at c0 f0); have HK2 := Lib.hid (HK1.out.on hb)))
                    go_returns
                    exact Ret.int H.out.symm HK2.out.below
                · have H := Lib.hid (show R = keyE p.code from HF.out.trans (by rw [firstFrom_no HP.out (by unfold frameE; rw [seqE_no h1]; exact h1), seqE_no (by unfold frameE; rw [seqE_no h1]; exact h1)]; unfold frameE; rw [seqE_no h1]))
                  go_wp2_with ((go_at_call 92; (with_reducible refine (c_keys_Check p.code _).mono ?_); intro e w1 hr; obtain ⟨rfl, hb, hc, hf, hz⟩ := hr.use; (try simp only [World.size_alloc, World.size_setCell, World.size_drew] at hz); clear hr; have c0 := fun o => hc (w.heap.size) o (by (try simp only [World.size_alloc, World.size_setCell, World.size_drew]); omega); have f0 := fun o => hf (w.heap.size) o (by (try simp only [World.size_alloc, World.size_setCell, World.size_drew]); omega); have z0 : w.heap.size < w1.heap.size := (by (try simp only [World.size_alloc, World.size_setCell, World.size_drew]); omega); have c1 := fun o => hc (wr.heap.size) o (by (try simp only [World.size_alloc, World.size_setCell, World.size_drew]); omega); have f1 := fun o => hf (wr.heap.size) o (by (try simp only [World.size_alloc, World.size_setCell, World.size_drew]); omega); have z1 : wr.heap.size < w1.heap.size := (by (try simp only [World.size_alloc, World.size_setCell, World.size_drew]); omega); clear hc hf; simp only [go_sem, World.size_alloc, *] at c0 f0 c1 f1); have HK1 := Lib.hid ((HK.out.alloc _).on hb))
                  go_returns
                  exact Ret.int H.out.symm HK1.out.below
              · have E5 := Lib.hid (HF.out.trans (by rw [firstFrom_end hge, seqE_ok rfl]))
                clear HF
                by_cases hot : 100 < m.out.length
                · have H := Lib.hid (E5.out.trans (by rw [if_pos hot]))
                  go_wp2
                  go_returns
                  exact Ret.int H.out.symm hbw
                · have E6 := Lib.hid (E5.out.trans (by rw [if_neg hot]))
                  have hot' : m.out.length ≤ 100 := by omega
                  clear hot E5
                  go_wp2
                  go_loopw [13, 68] (fun _ v wr => ∃ k : Nat, v = .int .i64 k ∧ k ≤ m.out.length ∧ R = firstFrom numE m.out k ∧ Below w.heap.size w wr) (fun _ v _ => (m.out.length - intOf v).toNat)
                  case atStart => exact ⟨0, rfl, by omega, E6.out, hbw⟩
                  case round =>
                    obtain ⟨k, rfl, hk, he, hbx⟩ := hrel
                    clear E6 HK hbw HB0 c0 f0 z0
                    have HF := Lib.hid he
                    clear he
                    rcases Nat.lt_or_ge k m.out.length with hlt | hge
                    · obtain ⟨b, oo, n, hOA, hb, hp, q0⟩ := (HLO.out.below hbx).cellsI hlt
                      subst hOA
                      have HP := Lib.hid hp
                      clear hp
                      cases h1 : (n != Go.Proofs.Ythdlfepakkihnaa.wr n)
                      · have H := Lib.hid (show R = firstFrom numE m.out (k + 1) from HF.out.trans (firstFrom_ok HP.out (numE_ok h1)))
                        go_wp2_with (go_at_call 86; (with_reducible refine (c_num_Wrap _ _).mono ?_); rintro e w1 ⟨rfl, rfl⟩)
                        go_roundw
                        case rel => exact ⟨k + 1, by go_num, by omega, H.out, hbx⟩
                        case measure => simp [intOf]; omega
                      · have H := Lib.hid (show R = 1 from HF.out.trans ((firstFrom_no HP.out (numE_no h1)).trans (numE_one h1)))
                        go_wp2_with (go_at_call 86; (with_reducible refine (c_num_Wrap _ _).mono ?_); rintro e w1 ⟨rfl, rfl⟩)
                        go_returns
                        exact Ret.int H.out.symm hbx
                    · have H := Lib.hid (HF.out.trans (firstFrom_end hge))
                      go_wp2
                      go_returns
                      exact Ret.int H.out.symm hbx
        · have H := Lib.hid (E2.out.trans (by rw [seqE_no hmm]))
          go_wp2_with (first | (go_at_call 92; (with_reducible refine (c_keys_Check m.code _).mono ?_); intro e w1 hr; obtain ⟨rfl, hb, hc, hf, hz⟩ := hr.use; clear hr hc hf; have hK := KeptB.on (HK.out) hb; clear hb hz; have HK := Lib.hid hK; have hbw := hK.below; have HB0 := Lib.hid (hK.box 0 _ rfl); have c0 := fun o => HB0.out.cell o; have f0 := fun o => HB0.out.frozen o; have z0 := HB0.out.lt; (try dsimp only at c0); (try simp only [Nat.add_zero] at c0 f0 z0); clear hK) | (go_at_call 93; (with_reducible refine (c_mem_Check A a m.mem _ ((HLM.out.below hbw).more (by omega))).mono ?_); intro e w2 hr; obtain ⟨rfl, hb, hc, hf, hz⟩ := hr.use; clear hr hc hf; have hK := KeptB.on (HK.out) hb; clear hb hz; have HK := Lib.hid hK; have hbw := hK.below; have HB0 := Lib.hid (hK.box 0 _ rfl); have c0 := fun o => HB0.out.cell o; have f0 := fun o => HB0.out.frozen o; have z0 := HB0.out.lt; (try dsimp only at c0); (try simp only [Nat.add_zero] at c0 f0 z0); clear hK))
          go_returns
          exact Ret.int H.out.symm hbw
      · have H := Lib.hid (E1.out.trans (by rw [seqE_no hc]))
        go_wp2_with (go_at_call 92; (with_reducible refine (c_keys_Check m.code _).mono ?_); intro e w1 hr; obtain ⟨rfl, hb, hc, hf, hz⟩ := hr.use; clear hr hc hf; have hK := KeptB.on (HK.out) hb; clear hb hz; have HK := Lib.hid hK; have hbw := hK.below; have HB0 := Lib.hid (hK.box 0 _ rfl); have c0 := fun o => HB0.out.cell o; have f0 := fun o => HB0.out.frozen o; have z0 := HB0.out.lt; (try dsimp only at c0); (try simp only [Nat.add_zero] at c0 f0 z0); clear hK)
        go_returns
        exact Ret.int H.out.symm hbw
end Go.Proofs.Ythdlfepakkihnaa
