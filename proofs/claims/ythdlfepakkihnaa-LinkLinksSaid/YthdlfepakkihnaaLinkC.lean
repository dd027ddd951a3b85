/- The contract of link's check. Conditions: the modules' numbers are numbers of 64 bits. -/
import Derived.Test.YthdlfepakkihnaaLinkO
import Derived.Test.YthdlfepakkihnaaModCk
import Derived.Test.YthdlfepakkihnaaInv
namespace Go.Proofs.Ythdlfepakkihnaa
open Go.RowKit
set_option linter.unusedVariables false
set_option linter.unusedSimpArgs false
set_option maxRecDepth 100000
theorem map_at {xs : List ModA} {k : Nat} {x : ModA} (h : xs[k]? = some x) : (xs.map (·.m))[k]? = some x.m := by rw [List.getElem?_map, h]; rfl
theorem cellsN_next {ms : List Mod} {k : Nat} {m : Mod} (h : ms[k]? = some m) : cellsN (ms.take (k + 1)) = cellsN (ms.take k) + sizeM m := by
  rw [List.take_add_one, h]; exact cellsN_snoc _ _
theorem cellsW {N k a b : Nat} (h : N ≤ 180 * k) (h1 : a ≤ 120) (h2 : b ≤ 60) (h3 : k ≤ 8) : Value.int .i64 (Go.RowKit.wrap64 ((N : Int) + Go.RowKit.wrap64 ((a : Int) + b))) = .int .i64 ((N + (a + b) : Nat) : Int) := by
  have : Go.RowKit.wrap64 ((N : Int) + Go.RowKit.wrap64 ((a : Int) + b)) = ((N + (a + b) : Nat) : Int) := by unfold Go.RowKit.wrap64; omega
  rw [this]
set_option maxHeartbeats 4000000 in
theorem c_link_check (L : Option Addr) (c : Nat) (xs : List ModA) (w : World) (h1 : xs.length ≤ c) (h2 : c ≤ maxLen) (hM : ModsV w w.heap.size L xs) :
    Calls Try.prog 33 #[.slice L xs.length c] w (Ret (.int .i64 (linkE (xs.map (·.m)))) w) := by
  have HM := Lib.hid hM
  obtain ⟨ms, hms⟩ : ∃ ms, ms = xs.map (·.m) := ⟨_, rfl⟩
  have hlen : ms.length = xs.length := by rw [hms, List.length_map]
  have HX := Lib.hid (fun (k : Nat) (x : ModA) (h : xs[k]? = some x) => (show ms[k]? = some x.m by rw [hms]; exact map_at h))
  rw [← hms]
  clear hM hms
  have hI := Inv.start w
  by_cases h8 : 8 < ms.length
  · have H := Lib.hid (show linkE ms = 2 by unfold linkE; rw [if_pos h8])
    have h8' : 8 < xs.length := by omega
    go_enter Try.func33, Try.ntmps33
    go_wp2_with fail
    go_returns
    exact Ret.int H.out.symm hI.below
  · have H := Lib.hid (show linkE ms = seqE (firstE modE ms) (seqE (fromI (twiceF (allNames ms)) (allNames ms) 0) (if 400 < cellsN ms then 9 else firstE (impsE (allNames ms)) ms)) by unfold linkE; rw [if_neg h8])
    have h8' : ¬ 8 < xs.length := by omega
    have hx8 : xs.length ≤ 8 := by omega
    go_enter Try.func33, Try.ntmps33
    go_wp2_with fail
    go_loopw [3, 21] (fun v3 v wr => ∃ k : Nat, v = .int .i64 k ∧ k ≤ xs.length ∧ firstE modE ms = firstFrom modE ms k ∧ v3 = .int .i64 (cellsN (ms.take k)) ∧ cellsN (ms.take k) ≤ 180 * k ∧ (∀ j m, j < k → ms[j]? = some m → (modE m != 0) = false) ∧ Inv w [] wr) (fun _ v _ => (xs.length - intOf v).toNat)
    case atStart => exact ⟨0, rfl, by omega, rfl, rfl, Nat.le_refl _, fun j m hj => by omega, hI⟩
    case round =>
      clear hI
      obtain ⟨k, rfl, hk, hf, rfl, hs, hall, hI⟩ := hrel
      have HF := Lib.hid hf
      have HA := Lib.hid hall
      clear hf hall
      rcases Nat.lt_or_ge k xs.length with hlt | hge
      · obtain ⟨b, o, x, rfl, hb, hx, hok, hwf, q0, q1, q2, q3⟩ := (HM.out.below hI.below).at_ hlt
        have hb' : b < wr.heap.size := Nat.lt_of_lt_of_le hb hI.size
        have hv := (HM.out.ok k x hx).v
        have hmx := HX.out k x hx
        clear hx hok
        obtain ⟨A, a, D, d, E, e, I, i, m⟩ := x
        dsimp only at q0 q1 q2 q3 hmx hwf hv
        have HK := Lib.hid hv
        have HMx := Lib.hid hmx
        have HW := Lib.hid hwf
        clear hv hmx hwf
        cases h0 : (modE m != 0)
        · have hsz := modE_sizes h0
          have H2 := Lib.hid (HF.out.trans (firstFrom_ok HMx.out h0))
          have HA2 := Lib.hid (show ∀ j m, j < k + 1 → ms[j]? = some m → (modE m != 0) = false from fun j m' hj hm' => by
            rcases Nat.lt_or_ge j k with h | h
            · exact HA.out j m' h hm'
            · obtain rfl : j = k := by omega
              cases HMx.out.symm.trans hm'; exact h0)
          have HC := Lib.hid (cellsN_next HMx.out)
          have HE := Lib.hid (cellsW hs hsz.1 hsz.2.1 (by omega))
          have HS := Lib.hid (show cellsN (ms.take (k + 1)) ≤ 180 * (k + 1) by rw [HC.out]; unfold sizeM; omega)
          clear HA HF hs hsz
          go_wp2_with (first | (refine listI_var rfl rfl 51 rfl _ _ rfl hI Try.zeroValue51 (fun _ => rfl) (fun _ => rfl) (by first | rfl | (simp only [hsz1]; first | done | rfl | kernel_rfl) | (simp only [hsz2]; first | done | rfl | kernel_rfl) | (simp only [hsz]; first | done | rfl | kernel_rfl) | kernel_rfl) (by first | exact info_mach (by assumption) | (simp only [hsz1]; kernel_rfl) | (simp only [hsz2]; kernel_rfl) | (simp only [hsz]; kernel_rfl) | kernel_rfl) (by first | (simp [Value.oneCell']; done) | exact HO1.out | exact HO2.out) fun gx w' hI' hb => ?_; (try replace HM1 := Lib.hid (HM1.out.grow hb)); (try replace HM2 := Lib.hid (HM2.out.grow hb)); (try replace HM3 := Lib.hid (HM3.out.grow hb)); (try replace HM4 := Lib.hid (HM4.out.grow hb)); (try clear hb); clear hI; have hI := hI'; clear hI'; (try simp only [List.cons_append, List.nil_append, List.set_cons_zero, List.set_cons_succ, List.setIfInBounds_toArray, Act.put, Act.eval, Array.getD_eq_getD_getElem?, List.getElem?_toArray, List.getElem?_cons_zero, List.getElem?_cons_succ, Option.getD_some] at hI); (try clear c0); (try clear c1); (try clear c2); (try clear c3); (try clear c4); (try clear c5); (try clear c6); (try clear c7); (try clear c8); (try clear c9); (try clear c10); (try clear c11); (try have c0 := hI.cell (i := 0) rfl); (try have c1 := hI.cell (i := 1) rfl); (try have c2 := hI.cell (i := 2) rfl); (try have c3 := hI.cell (i := 3) rfl); (try have c4 := hI.cell (i := 4) rfl); (try have c5 := hI.cell (i := 5) rfl); (try have c6 := hI.cell (i := 6) rfl); (try have c7 := hI.cell (i := 7) rfl); (try have c8 := hI.cell (i := 8) rfl); (try have c9 := hI.cell (i := 9) rfl); (try have c10 := hI.cell (i := 10) rfl); (try have c11 := hI.cell (i := 11) rfl); skip) | (go_at_call 38; (with_reducible refine (c_module_Check _ m _ HW.out ((HK.out.below hI.below).more hI.size)).mono ?_); intro e w' hr; obtain ⟨rfl, hb⟩ := hr; have hI' := hI.on hb; (try replace HM1 := Lib.hid (HM1.out.grow hb)); (try replace HM2 := Lib.hid (HM2.out.grow hb)); (try replace HM3 := Lib.hid (HM3.out.grow hb)); (try replace HM4 := Lib.hid (HM4.out.grow hb)); (try clear hb); clear hI; have hI := hI'; clear hI'; (try simp only [List.cons_append, List.nil_append, List.set_cons_zero, List.set_cons_succ, List.setIfInBounds_toArray, Act.put, Act.eval, Array.getD_eq_getD_getElem?, List.getElem?_toArray, List.getElem?_cons_zero, List.getElem?_cons_succ, Option.getD_some] at hI); (try clear c0); (try clear c1); (try clear c2); (try clear c3); (try clear c4); (try clear c5); (try clear c6); (try clear c7); (try clear c8); (try clear c9); (try clear c10); (try clear c11); (try have c0 := hI.cell (i := 0) rfl); (try have c1 := hI.cell (i := 1) rfl); (try have c2 := hI.cell (i := 2) rfl); (try have c3 := hI.cell (i := 3) rfl); (try have c4 := hI.cell (i := 4) rfl); (try have c5 := hI.cell (i := 5) rfl); (try have c6 := hI.cell (i := 6) rfl); (try have c7 := hI.cell (i := 7) rfl); (try have c8 := hI.cell (i := 8) rfl); (try have c9 := hI.cell (i := 9) rfl); (try have c10 := hI.cell (i := 10) rfl); (try have c11 := hI.cell (i := 11) rfl); skip) | fail)
          go_roundw
          case rel => exact ⟨k + 1, by go_num, by omega, H2.out, by rw [HE.out, HC.out]; rfl, HS.out, HA2.out, hI.first [] [_] rfl⟩
          case measure => simp [intOf]; omega
        · have H2 := Lib.hid (show linkE ms = modE m by rw [H.out, HF.out, firstFrom_no HMx.out h0, seqE_no h0])
          go_wp2_with (first | (refine listI_var rfl rfl 51 rfl _ _ rfl hI Try.zeroValue51 (fun _ => rfl) (fun _ => rfl) (by first | rfl | (simp only [hsz1]; first | done | rfl | kernel_rfl) | (simp only [hsz2]; first | done | rfl | kernel_rfl) | (simp only [hsz]; first | done | rfl | kernel_rfl) | kernel_rfl) (by first | exact info_mach (by assumption) | (simp only [hsz1]; kernel_rfl) | (simp only [hsz2]; kernel_rfl) | (simp only [hsz]; kernel_rfl) | kernel_rfl) (by first | (simp [Value.oneCell']; done) | exact HO1.out | exact HO2.out) fun gx w' hI' hb => ?_; (try replace HM1 := Lib.hid (HM1.out.grow hb)); (try replace HM2 := Lib.hid (HM2.out.grow hb)); (try replace HM3 := Lib.hid (HM3.out.grow hb)); (try replace HM4 := Lib.hid (HM4.out.grow hb)); (try clear hb); clear hI; have hI := hI'; clear hI'; (try simp only [List.cons_append, List.nil_append, List.set_cons_zero, List.set_cons_succ, List.setIfInBounds_toArray, Act.put, Act.eval, Array.getD_eq_getD_getElem?, List.getElem?_toArray, List.getElem?_cons_zero, List.getElem?_cons_succ, Option.getD_some] at hI); (try clear c0); (try clear c1); (try clear c2); (try clear c3); (try clear c4); (try clear c5); (try clear c6); (try clear c7); (try clear c8); (try clear c9); (try clear c10); (try clear c11); (try have c0 := hI.cell (i := 0) rfl); (try have c1 := hI.cell (i := 1) rfl); (try have c2 := hI.cell (i := 2) rfl); (try have c3 := hI.cell (i := 3) rfl); (try have c4 := hI.cell (i := 4) rfl); (try have c5 := hI.cell (i := 5) rfl); (try have c6 := hI.cell (i := 6) rfl); (try have c7 := hI.cell (i := 7) rfl); (try have c8 := hI.cell (i := 8) rfl); (try have c9 := hI.cell (i := 9) rfl); (try have c10 := hI.cell (i := 10) rfl); (try have c11 := hI.cell (i := 11) rfl); skip) | (go_at_call 38; (with_reducible refine (c_module_Check _ m _ HW.out ((HK.out.below hI.below).more hI.size)).mono ?_); intro e w' hr; obtain ⟨rfl, hb⟩ := hr; have hI' := hI.on hb; (try replace HM1 := Lib.hid (HM1.out.grow hb)); (try replace HM2 := Lib.hid (HM2.out.grow hb)); (try replace HM3 := Lib.hid (HM3.out.grow hb)); (try replace HM4 := Lib.hid (HM4.out.grow hb)); (try clear hb); clear hI; have hI := hI'; clear hI'; (try simp only [List.cons_append, List.nil_append, List.set_cons_zero, List.set_cons_succ, List.setIfInBounds_toArray, Act.put, Act.eval, Array.getD_eq_getD_getElem?, List.getElem?_toArray, List.getElem?_cons_zero, List.getElem?_cons_succ, Option.getD_some] at hI); (try clear c0); (try clear c1); (try clear c2); (try clear c3); (try clear c4); (try clear c5); (try clear c6); (try clear c7); (try clear c8); (try clear c9); (try clear c10); (try clear c11); (try have c0 := hI.cell (i := 0) rfl); (try have c1 := hI.cell (i := 1) rfl); (try have c2 := hI.cell (i := 2) rfl); (try have c3 := hI.cell (i := 3) rfl); (try have c4 := hI.cell (i := 4) rfl); (try have c5 := hI.cell (i := 5) rfl); (try have c6 := hI.cell (i := 6) rfl); (try have c7 := hI.cell (i := 7) rfl); (try have c8 := hI.cell (i := 8) rfl); (try have c9 := hI.cell (i := 9) rfl); (try have c10 := hI.cell (i := 10) rfl); (try have c11 := hI.cell (i := 11) rfl); skip) | fail)
          go_returns
          exact Ret.int H2.out.symm hI.below
      · have hk' : k = ms.length := by omega
        have H2 := Lib.hid (show linkE ms = seqE (fromI (twiceF (allNames ms)) (allNames ms) 0) (if 400 < cellsN ms then 9 else firstE (impsE (allNames ms)) ms) by rw [H.out, HF.out, firstFrom_end (by omega)]; rfl)
        obtain ⟨N, hN0⟩ : ∃ N, cellsN (ms.take k) = N := ⟨_, rfl⟩
        have HN := Lib.hid (show N = cellsN ms by rw [← hN0, hk', List.take_length])
        have hN : N ≤ 1440 := by rw [← hN0]; omega
        rw [hN0]
        clear H HF HA hN0 hs hk'
        have H := H2
        go_wp2_with (first | ((refine listI rfl fun K hK => wpI_makeSet _ rfl hI fun gx w' hI' hb => hK _ _ ?_; clear hK K; (try replace HM1 := Lib.hid (HM1.out.grow hb)); (try replace HM2 := Lib.hid (HM2.out.grow hb)); (try replace HM3 := Lib.hid (HM3.out.grow hb)); (try replace HM4 := Lib.hid (HM4.out.grow hb)); (try clear hb); clear hI; have hI := hI'; clear hI'; (try simp only [List.cons_append, List.nil_append, List.set_cons_zero, List.set_cons_succ, List.setIfInBounds_toArray, Act.put, Act.eval, Array.getD_eq_getD_getElem?, List.getElem?_toArray, List.getElem?_cons_zero, List.getElem?_cons_succ, Option.getD_some] at hI); (try clear c0); (try clear c1); (try clear c2); (try clear c3); (try clear c4); (try clear c5); (try clear c6); (try clear c7); (try clear c8); (try clear c9); (try clear c10); (try clear c11); (try have c0 := hI.cell (i := 0) rfl); (try have c1 := hI.cell (i := 1) rfl); (try have c2 := hI.cell (i := 2) rfl); (try have c3 := hI.cell (i := 3) rfl); (try have c4 := hI.cell (i := 4) rfl); (try have c5 := hI.cell (i := 5) rfl); (try have c6 := hI.cell (i := 6) rfl); (try have c7 := hI.cell (i := 7) rfl); (try have c8 := hI.cell (i := 8) rfl); (try have c9 := hI.cell (i := 9) rfl); (try have c10 := hI.cell (i := 10) rfl); (try have c11 := hI.cell (i := 11) rfl); skip); obtain ⟨gs, rfl⟩ : ∃ y, y = gx := ⟨_, rfl⟩) | fail)
        go_loopw [43] (fun v wr => ∃ k : Nat, v = .int .i64 k ∧ k ≤ xs.length ∧ fromI (twiceF (allNames ms)) (allNames ms) 0 = fromI (twiceF (allNames ms)) (allNames ms) (allNames (ms.take k)).length ∧ Inv w [.obj gs (setO (allNames (ms.take k)))] wr) (fun v _ => (xs.length - intOf v).toNat)
        case atStart => exact ⟨0, rfl, by omega, rfl, hI⟩
        case round =>
          clear hI hge hk
          obtain ⟨k, rfl, hk, hf, hI⟩ := hrel
          have HF := Lib.hid hf
          clear hf
          rcases Nat.lt_or_ge k xs.length with hlt | hge
          · obtain ⟨b, o, x, rfl, hb, hx, hok, hwf, q0, q1, q2, q3⟩ := (HM.out.below hI.below).at_ hlt
            have hb' : b < wr.heap.size := Nat.lt_of_lt_of_le hb hI.size
            have hv := HM.out.ok k x hx
            have hmx := HX.out k x hx
            clear hx hok hwf
            obtain ⟨A, a, D, d, E, e, I, i, m⟩ := x
            have he := hv.exps
            have hc := hv.caps
            dsimp only at q0 q1 q2 q3 hmx he hc
            have HE := Lib.hid he
            have HMx := Lib.hid hmx
            have hel : m.exports.length ≤ 9223372036854775807 := by unfold maxLen at hc; omega
            clear hv hmx he hc
            go_wp2_with (first | ((refine listI_var rfl rfl 51 rfl _ _ rfl hI Try.zeroValue51 (fun _ => rfl) (fun _ => rfl) (by first | rfl | (simp only [hsz1]; first | done | rfl | kernel_rfl) | (simp only [hsz2]; first | done | rfl | kernel_rfl) | (simp only [hsz]; first | done | rfl | kernel_rfl) | kernel_rfl) (by first | exact info_mach (by assumption) | (simp only [hsz1]; kernel_rfl) | (simp only [hsz2]; kernel_rfl) | (simp only [hsz]; kernel_rfl) | kernel_rfl) (by first | (simp [Value.oneCell']; done) | exact HO1.out | exact HO2.out) fun gx w' hI' hb => ?_; (try replace HM1 := Lib.hid (HM1.out.grow hb)); (try replace HM2 := Lib.hid (HM2.out.grow hb)); (try replace HM3 := Lib.hid (HM3.out.grow hb)); (try replace HM4 := Lib.hid (HM4.out.grow hb)); (try clear hb); clear hI; have hI := hI'; clear hI'; (try simp only [List.cons_append, List.nil_append, List.set_cons_zero, List.set_cons_succ, List.setIfInBounds_toArray, Act.put, Act.eval, Array.getD_eq_getD_getElem?, List.getElem?_toArray, List.getElem?_cons_zero, List.getElem?_cons_succ, Option.getD_some] at hI); (try clear c0); (try clear c1); (try clear c2); (try clear c3); (try clear c4); (try clear c5); (try clear c6); (try clear c7); (try clear c8); (try clear c9); (try clear c10); (try clear c11); (try have c0 := hI.cell (i := 0) rfl); (try have c1 := hI.cell (i := 1) rfl); (try have c2 := hI.cell (i := 2) rfl); (try have c3 := hI.cell (i := 3) rfl); (try have c4 := hI.cell (i := 4) rfl); (try have c5 := hI.cell (i := 5) rfl); (try have c6 := hI.cell (i := 6) rfl); (try have c7 := hI.cell (i := 7) rfl); (try have c8 := hI.cell (i := 8) rfl); (try have c9 := hI.cell (i := 9) rfl); (try have c10 := hI.cell (i := 10) rfl); (try have c11 := hI.cell (i := 11) rfl); skip); obtain ⟨gm, rfl⟩ : ∃ y, y = gx := ⟨_, rfl⟩) | fail)
            go_loopw [50] (fun v wr => ∃ j : Nat, v = .int .i64 j ∧ j ≤ m.exports.length ∧ fromI (twiceF (allNames ms)) (allNames ms) 0 = fromI (twiceF (allNames ms)) (allNames ms) (nmAt ms k m j).length ∧ Inv w [.obj gs (setO (nmAt ms k m j)), .box gm 51 #[.slice A m.code.length a, .slice D m.data.length d, .slice E m.exports.length e, .slice I m.imports.length i]] wr) (fun v _ => (m.exports.length - intOf v).toNat)
            case atStart => exact ⟨0, rfl, by omega, by rw [nmAt_zero]; exact HF.out, by rw [nmAt_zero]; exact hI⟩
            case round =>
              clear hI c1 HF q0 q1 q2 q3 hb' hb
              obtain ⟨j, rfl, hj, hf, hI⟩ := hrel
              have HF := Lib.hid hf
              clear hf
              rcases Nat.lt_or_ge j m.exports.length with hjl | hjg
              · obtain ⟨be, oe, y, hEE, hbe, hy, q0, q1⟩ := (hI.lies HE.out).cellsL hjl
                subst hEE
                have HY := Lib.hid hy
                have HAT := Lib.hid (nmAt_at HMx.out hy)
                have HSU := Lib.hid (nmAt_succ (ms := ms) (k := k) hy)
                clear hy
                (try have c0 := hI.cell (i := 0) rfl); (try have c1 := hI.cell (i := 1) rfl); (try have c2 := hI.cell (i := 2) rfl); (try have c3 := hI.cell (i := 3) rfl); (try have c4 := hI.cell (i := 4) rfl); (try have c5 := hI.cell (i := 5) rfl); (try have c6 := hI.cell (i := 6) rfl); (try have c7 := hI.cell (i := 7) rfl); (try have c8 := hI.cell (i := 8) rfl); (try have c9 := hI.cell (i := 9) rfl); (try have c10 := hI.cell (i := 10) rfl); (try have c11 := hI.cell (i := 11) rfl); skip
                cases h3 : isIn (nmAt ms k m j) y.name
                · have H2 := Lib.hid (HF.out.trans (fromI_ok HAT.out.1 (by rw [twiceF_no HAT.out.2 h3]; rfl)))
                  go_wp2_with (first | (refine listI_var rfl rfl 47 rfl _ _ rfl hI Try.zeroValue47 (fun _ => rfl) (fun _ => rfl) (by first | rfl | (simp only [hsz1]; first | done | rfl | kernel_rfl) | (simp only [hsz2]; first | done | rfl | kernel_rfl) | (simp only [hsz]; first | done | rfl | kernel_rfl) | kernel_rfl) (by first | exact info_mach (by assumption) | (simp only [hsz1]; kernel_rfl) | (simp only [hsz2]; kernel_rfl) | (simp only [hsz]; kernel_rfl) | kernel_rfl) (by first | (simp [Value.oneCell']; done) | exact HO1.out | exact HO2.out) fun gx w' hI' hb => ?_; (try replace HM1 := Lib.hid (HM1.out.grow hb)); (try replace HM2 := Lib.hid (HM2.out.grow hb)); (try replace HM3 := Lib.hid (HM3.out.grow hb)); (try replace HM4 := Lib.hid (HM4.out.grow hb)); (try clear hb); clear hI; have hI := hI'; clear hI'; (try simp only [List.cons_append, List.nil_append, List.set_cons_zero, List.set_cons_succ, List.setIfInBounds_toArray, Act.put, Act.eval, Array.getD_eq_getD_getElem?, List.getElem?_toArray, List.getElem?_cons_zero, List.getElem?_cons_succ, Option.getD_some] at hI); (try clear c0); (try clear c1); (try clear c2); (try clear c3); (try clear c4); (try clear c5); (try clear c6); (try clear c7); (try clear c8); (try clear c9); (try clear c10); (try clear c11); (try have c0 := hI.cell (i := 0) rfl); (try have c1 := hI.cell (i := 1) rfl); (try have c2 := hI.cell (i := 2) rfl); (try have c3 := hI.cell (i := 3) rfl); (try have c4 := hI.cell (i := 4) rfl); (try have c5 := hI.cell (i := 5) rfl); (try have c6 := hI.cell (i := 6) rfl); (try have c7 := hI.cell (i := 7) rfl); (try have c8 := hI.cell (i := 8) rfl); (try have c9 := hI.cell (i := 9) rfl); (try have c10 := hI.cell (i := 10) rfl); (try have c11 := hI.cell (i := 11) rfl); skip) | (refine listI rfl fun K hK => wpI_setLook _ _ _ rfl Try.underlying132 Try.underlying9 Try.zeroValue4 hI rfl 0 rfl rfl (hK _ _ ?_); clear hK K; rw [h3]) | (refine listI rfl fun K hK => wpI_setIns _ _ _ _ rfl Try.underlying132 Try.underlying9 hI rfl 0 rfl rfl rfl h3 fun w' hI' => hK _ _ ?_; clear hK K; (try replace HM1 := Lib.hid (HM1.out.grow hb)); (try replace HM2 := Lib.hid (HM2.out.grow hb)); (try replace HM3 := Lib.hid (HM3.out.grow hb)); (try replace HM4 := Lib.hid (HM4.out.grow hb)); (try clear hb); clear hI; have hI := hI'; clear hI'; (try simp only [List.cons_append, List.nil_append, List.set_cons_zero, List.set_cons_succ, List.setIfInBounds_toArray, Act.put, Act.eval, Array.getD_eq_getD_getElem?, List.getElem?_toArray, List.getElem?_cons_zero, List.getElem?_cons_succ, Option.getD_some] at hI); (try clear c0); (try clear c1); (try clear c2); (try clear c3); (try clear c4); (try clear c5); (try clear c6); (try clear c7); (try clear c8); (try clear c9); (try clear c10); (try clear c11); (try have c0 := hI.cell (i := 0) rfl); (try have c1 := hI.cell (i := 1) rfl); (try have c2 := hI.cell (i := 2) rfl); (try have c3 := hI.cell (i := 3) rfl); (try have c4 := hI.cell (i := 4) rfl); (try have c5 := hI.cell (i := 5) rfl); (try have c6 := hI.cell (i := 6) rfl); (try have c7 := hI.cell (i := 7) rfl); (try have c8 := hI.cell (i := 8) rfl); (try have c9 := hI.cell (i := 9) rfl); (try have c10 := hI.cell (i := 10) rfl); (try have c11 := hI.cell (i := 11) rfl); skip) | fail)
                  go_roundw
                  case rel => exact ⟨j + 1, by go_num, by omega, by rw [HSU.out, List.length_append]; exact H2.out, by rw [HSU.out]; exact hI.first [_, _] [_] rfl⟩
                  case measure => simp [intOf]; omega
                · have H2 := Lib.hid (show linkE ms = 8 by rw [H.out, HF.out, fromI_no HAT.out.1 (by rw [twiceF_yes HAT.out.2 h3]; rfl), twiceF_yes HAT.out.2 h3]; rfl)
                  go_wp2_with (first | (refine listI_var rfl rfl 47 rfl _ _ rfl hI Try.zeroValue47 (fun _ => rfl) (fun _ => rfl) (by first | rfl | (simp only [hsz1]; first | done | rfl | kernel_rfl) | (simp only [hsz2]; first | done | rfl | kernel_rfl) | (simp only [hsz]; first | done | rfl | kernel_rfl) | kernel_rfl) (by first | exact info_mach (by assumption) | (simp only [hsz1]; kernel_rfl) | (simp only [hsz2]; kernel_rfl) | (simp only [hsz]; kernel_rfl) | kernel_rfl) (by first | (simp [Value.oneCell']; done) | exact HO1.out | exact HO2.out) fun gx w' hI' hb => ?_; (try replace HM1 := Lib.hid (HM1.out.grow hb)); (try replace HM2 := Lib.hid (HM2.out.grow hb)); (try replace HM3 := Lib.hid (HM3.out.grow hb)); (try replace HM4 := Lib.hid (HM4.out.grow hb)); (try clear hb); clear hI; have hI := hI'; clear hI'; (try simp only [List.cons_append, List.nil_append, List.set_cons_zero, List.set_cons_succ, List.setIfInBounds_toArray, Act.put, Act.eval, Array.getD_eq_getD_getElem?, List.getElem?_toArray, List.getElem?_cons_zero, List.getElem?_cons_succ, Option.getD_some] at hI); (try clear c0); (try clear c1); (try clear c2); (try clear c3); (try clear c4); (try clear c5); (try clear c6); (try clear c7); (try clear c8); (try clear c9); (try clear c10); (try clear c11); (try have c0 := hI.cell (i := 0) rfl); (try have c1 := hI.cell (i := 1) rfl); (try have c2 := hI.cell (i := 2) rfl); (try have c3 := hI.cell (i := 3) rfl); (try have c4 := hI.cell (i := 4) rfl); (try have c5 := hI.cell (i := 5) rfl); (try have c6 := hI.cell (i := 6) rfl); (try have c7 := hI.cell (i := 7) rfl); (try have c8 := hI.cell (i := 8) rfl); (try have c9 := hI.cell (i := 9) rfl); (try have c10 := hI.cell (i := 10) rfl); (try have c11 := hI.cell (i := 11) rfl); skip) | (refine listI rfl fun K hK => wpI_setLook _ _ _ rfl Try.underlying132 Try.underlying9 Try.zeroValue4 hI rfl 0 rfl rfl (hK _ _ ?_); clear hK K; rw [h3]) | fail)
                  go_returns
                  exact Ret.int H2.out.symm hI.below
              · have H2 := Lib.hid (nmAt_end HMx.out hjg)
                go_wp2_with fail
                go_roundw
                case rel => exact ⟨k + 1, by go_num, by omega, by rw [← H2.out]; exact HF.out, by rw [← H2.out]; exact hI.first [_] [_] rfl⟩
                case measure => simp [intOf]; omega
          · have hk' : k = ms.length := by omega
            have H2 := Lib.hid (show linkE ms = if 400 < cellsN ms then 9 else firstE (impsE (allNames ms)) ms by rw [H.out, HF.out, hk', List.take_length, fromI_end (Nat.le_refl _)]; rfl)
            obtain ⟨all, hal0⟩ : ∃ all, allNames ms = all := ⟨_, rfl⟩
            have HAL := Lib.hid hal0
            rw [hk', List.take_length, hal0] at hI
            rw [hal0] at H2
            clear H HF hal0 hk'
            have H := H2
            by_cases h4 : 400 < N
            · have H2 := Lib.hid (show linkE ms = 9 by rw [H.out, if_pos (by rw [← HN.out]; exact h4)])
              have h4' : (400 : Int) < N := by omega
              go_wp2_with fail
              go_returns
              exact Ret.int H2.out.symm hI.below
            · have H2 := Lib.hid (show linkE ms = firstE (impsE all) ms by rw [H.out, if_neg (by rw [← HN.out]; exact h4)])
              have h4' : ¬ (400 : Int) < N := by omega
              clear H h4
              have H := H2
              go_wp2_with fail
              go_loopw [67] (fun v wr => ∃ k : Nat, v = .int .i64 k ∧ k ≤ xs.length ∧ firstE (impsE all) ms = firstFrom (impsE all) ms k ∧ Inv w [.obj gs (setO all)] wr) (fun v _ => (xs.length - intOf v).toNat)
              case atStart => exact ⟨0, rfl, by omega, rfl, hI⟩
              case round =>
                clear hI h4'
                obtain ⟨k, rfl, hk, hf, hI⟩ := hrel
                have HF := Lib.hid hf
                clear hf
                rcases Nat.lt_or_ge k xs.length with hlt | hge
                · obtain ⟨b, o, x, rfl, hb, hx, hok, hwf, q0, q1, q2, q3⟩ := (HM.out.below hI.below).at_ hlt
                  have hb' : b < wr.heap.size := Nat.lt_of_lt_of_le hb hI.size
                  have hv := HM.out.ok k x hx
                  have hmx := HX.out k x hx
                  clear hx hok hwf
                  obtain ⟨A, a, D, d, E, e, I, i, m⟩ := x
                  have he := hv.imps
                  have hc := hv.caps
                  dsimp only at q0 q1 q2 q3 hmx he hc
                  have HE := Lib.hid he
                  have HMx := Lib.hid hmx
                  have hel : m.imports.length ≤ 9223372036854775807 := by unfold maxLen at hc; omega
                  clear hv hmx he hc
                  go_wp2_with (first | ((refine listI_var rfl rfl 51 rfl _ _ rfl hI Try.zeroValue51 (fun _ => rfl) (fun _ => rfl) (by first | rfl | (simp only [hsz1]; first | done | rfl | kernel_rfl) | (simp only [hsz2]; first | done | rfl | kernel_rfl) | (simp only [hsz]; first | done | rfl | kernel_rfl) | kernel_rfl) (by first | exact info_mach (by assumption) | (simp only [hsz1]; kernel_rfl) | (simp only [hsz2]; kernel_rfl) | (simp only [hsz]; kernel_rfl) | kernel_rfl) (by first | (simp [Value.oneCell']; done) | exact HO1.out | exact HO2.out) fun gx w' hI' hb => ?_; (try replace HM1 := Lib.hid (HM1.out.grow hb)); (try replace HM2 := Lib.hid (HM2.out.grow hb)); (try replace HM3 := Lib.hid (HM3.out.grow hb)); (try replace HM4 := Lib.hid (HM4.out.grow hb)); (try clear hb); clear hI; have hI := hI'; clear hI'; (try simp only [List.cons_append, List.nil_append, List.set_cons_zero, List.set_cons_succ, List.setIfInBounds_toArray, Act.put, Act.eval, Array.getD_eq_getD_getElem?, List.getElem?_toArray, List.getElem?_cons_zero, List.getElem?_cons_succ, Option.getD_some] at hI); (try clear c0); (try clear c1); (try clear c2); (try clear c3); (try clear c4); (try clear c5); (try clear c6); (try clear c7); (try clear c8); (try clear c9); (try clear c10); (try clear c11); (try have c0 := hI.cell (i := 0) rfl); (try have c1 := hI.cell (i := 1) rfl); (try have c2 := hI.cell (i := 2) rfl); (try have c3 := hI.cell (i := 3) rfl); (try have c4 := hI.cell (i := 4) rfl); (try have c5 := hI.cell (i := 5) rfl); (try have c6 := hI.cell (i := 6) rfl); (try have c7 := hI.cell (i := 7) rfl); (try have c8 := hI.cell (i := 8) rfl); (try have c9 := hI.cell (i := 9) rfl); (try have c10 := hI.cell (i := 10) rfl); (try have c11 := hI.cell (i := 11) rfl); skip); obtain ⟨gm, rfl⟩ : ∃ y, y = gx := ⟨_, rfl⟩) | fail)
                  go_loopw [74] (fun v wr => ∃ j : Nat, v = .int .i64 j ∧ j ≤ m.imports.length ∧ firstE (noneF all) m.imports = firstFrom (noneF all) m.imports j ∧ Inv w [.obj gs (setO all), .box gm 51 #[.slice A m.code.length a, .slice D m.data.length d, .slice E m.exports.length e, .slice I m.imports.length i]] wr) (fun v _ => (m.imports.length - intOf v).toNat)
                  case atStart => exact ⟨0, rfl, by omega, rfl, hI⟩
                  case round =>
                    clear hI c1 q0 q1 q2 q3 hb' hb
                    obtain ⟨j, rfl, hj, hf, hI⟩ := hrel
                    have HG := Lib.hid hf
                    clear hf
                    rcases Nat.lt_or_ge j m.imports.length with hjl | hjg
                    · obtain ⟨be, oe, y, hEE, hbe, hy, q0, q1⟩ := (hI.lies HE.out).cellsM hjl
                      subst hEE
                      have HY := Lib.hid hy
                      clear hy
                      (try have c0 := hI.cell (i := 0) rfl); (try have c1 := hI.cell (i := 1) rfl); (try have c2 := hI.cell (i := 2) rfl); (try have c3 := hI.cell (i := 3) rfl); (try have c4 := hI.cell (i := 4) rfl); (try have c5 := hI.cell (i := 5) rfl); (try have c6 := hI.cell (i := 6) rfl); (try have c7 := hI.cell (i := 7) rfl); (try have c8 := hI.cell (i := 8) rfl); (try have c9 := hI.cell (i := 9) rfl); (try have c10 := hI.cell (i := 10) rfl); (try have c11 := hI.cell (i := 11) rfl); skip
                      cases h3 : isIn all y.name
                      · have H2 := Lib.hid (show linkE ms = 7 by
                          have e0 : noneF all y = 7 := by unfold noneF; rw [if_neg (by simp [h3])]
                          have e1 : impsE all m = 7 := by unfold impsE; rw [HG.out, firstFrom_no HY.out (by rw [e0]; rfl), e0]
                          rw [H.out, HF.out, firstFrom_no HMx.out (by rw [e1]; rfl), e1])
                        go_wp2_with (first | (refine listI_var rfl rfl 84 rfl _ _ rfl hI Try.zeroValue84 (fun _ => rfl) (fun _ => rfl) (by first | rfl | (simp only [hsz1]; first | done | rfl | kernel_rfl) | (simp only [hsz2]; first | done | rfl | kernel_rfl) | (simp only [hsz]; first | done | rfl | kernel_rfl) | kernel_rfl) (by first | exact info_mach (by assumption) | (simp only [hsz1]; kernel_rfl) | (simp only [hsz2]; kernel_rfl) | (simp only [hsz]; kernel_rfl) | kernel_rfl) (by first | (simp [Value.oneCell']; done) | exact HO1.out | exact HO2.out) fun gx w' hI' hb => ?_; (try replace HM1 := Lib.hid (HM1.out.grow hb)); (try replace HM2 := Lib.hid (HM2.out.grow hb)); (try replace HM3 := Lib.hid (HM3.out.grow hb)); (try replace HM4 := Lib.hid (HM4.out.grow hb)); (try clear hb); clear hI; have hI := hI'; clear hI'; (try simp only [List.cons_append, List.nil_append, List.set_cons_zero, List.set_cons_succ, List.setIfInBounds_toArray, Act.put, Act.eval, Array.getD_eq_getD_getElem?, List.getElem?_toArray, List.getElem?_cons_zero, List.getElem?_cons_succ, Option.getD_some] at hI); (try clear c0); (try clear c1); (try clear c2); (try clear c3); (try clear c4); (try clear c5); (try clear c6); (try clear c7); (try clear c8); (try clear c9); (try clear c10); (try clear c11); (try have c0 := hI.cell (i := 0) rfl); (try have c1 := hI.cell (i := 1) rfl); (try have c2 := hI.cell (i := 2) rfl); (try have c3 := hI.cell (i := 3) rfl); (try have c4 := hI.cell (i := 4) rfl); (try have c5 := hI.cell (i := 5) rfl); (try have c6 := hI.cell (i := 6) rfl); (try have c7 := hI.cell (i := 7) rfl); (try have c8 := hI.cell (i := 8) rfl); (try have c9 := hI.cell (i := 9) rfl); (try have c10 := hI.cell (i := 10) rfl); (try have c11 := hI.cell (i := 11) rfl); skip) | (refine listI rfl fun K hK => wpI_setLook _ _ _ rfl Try.underlying132 Try.underlying9 Try.zeroValue4 hI rfl 0 rfl rfl (hK _ _ ?_); clear hK K; rw [h3]) | fail)
                        go_returns
                        exact Ret.int H2.out.symm hI.below
                      · have H2 := Lib.hid (show firstE (noneF all) m.imports = firstFrom (noneF all) m.imports (j + 1) from HG.out.trans (firstFrom_ok HY.out (by unfold noneF; rw [if_pos h3]; rfl)))
                        go_wp2_with (first | (refine listI_var rfl rfl 84 rfl _ _ rfl hI Try.zeroValue84 (fun _ => rfl) (fun _ => rfl) (by first | rfl | (simp only [hsz1]; first | done | rfl | kernel_rfl) | (simp only [hsz2]; first | done | rfl | kernel_rfl) | (simp only [hsz]; first | done | rfl | kernel_rfl) | kernel_rfl) (by first | exact info_mach (by assumption) | (simp only [hsz1]; kernel_rfl) | (simp only [hsz2]; kernel_rfl) | (simp only [hsz]; kernel_rfl) | kernel_rfl) (by first | (simp [Value.oneCell']; done) | exact HO1.out | exact HO2.out) fun gx w' hI' hb => ?_; (try replace HM1 := Lib.hid (HM1.out.grow hb)); (try replace HM2 := Lib.hid (HM2.out.grow hb)); (try replace HM3 := Lib.hid (HM3.out.grow hb)); (try replace HM4 := Lib.hid (HM4.out.grow hb)); (try clear hb); clear hI; have hI := hI'; clear hI'; (try simp only [List.cons_append, List.nil_append, List.set_cons_zero, List.set_cons_succ, List.setIfInBounds_toArray, Act.put, Act.eval, Array.getD_eq_getD_getElem?, List.getElem?_toArray, List.getElem?_cons_zero, List.getElem?_cons_succ, Option.getD_some] at hI); (try clear c0); (try clear c1); (try clear c2); (try clear c3); (try clear c4); (try clear c5); (try clear c6); (try clear c7); (try clear c8); (try clear c9); (try clear c10); (try clear c11); (try have c0 := hI.cell (i := 0) rfl); (try have c1 := hI.cell (i := 1) rfl); (try have c2 := hI.cell (i := 2) rfl); (try have c3 := hI.cell (i := 3) rfl); (try have c4 := hI.cell (i := 4) rfl); (try have c5 := hI.cell (i := 5) rfl); (try have c6 := hI.cell (i := 6) rfl); (try have c7 := hI.cell (i := 7) rfl); (try have c8 := hI.cell (i := 8) rfl); (try have c9 := hI.cell (i := 9) rfl); (try have c10 := hI.cell (i := 10) rfl); (try have c11 := hI.cell (i := 11) rfl); skip) | (refine listI rfl fun K hK => wpI_setLook _ _ _ rfl Try.underlying132 Try.underlying9 Try.zeroValue4 hI rfl 0 rfl rfl (hK _ _ ?_); clear hK K; rw [h3]) | fail)
                        go_roundw
                        case rel => exact ⟨j + 1, by go_num, by omega, H2.out, hI.first [_, _] [_] rfl⟩
                        case measure => simp [intOf]; omega
                    · have H2 := Lib.hid (show firstE (impsE all) ms = firstFrom (impsE all) ms (k + 1) from HF.out.trans (firstFrom_ok HMx.out (by unfold impsE; rw [HG.out, firstFrom_end hjg]; rfl)))
                      go_wp2_with fail
                      go_roundw
                      case rel => exact ⟨k + 1, by go_num, by omega, H2.out, hI.first [_] [_] rfl⟩
                      case measure => simp [intOf]; omega
                · have H2 := Lib.hid (show linkE ms = 0 by rw [H.out, HF.out, firstFrom_end (by omega)])
                  go_wp2_with fail
                  go_returns
                  exact Ret.int H2.out.symm hI.below
end Go.Proofs.Ythdlfepakkihnaa
