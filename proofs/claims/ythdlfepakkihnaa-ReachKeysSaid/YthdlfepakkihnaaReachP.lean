/- The program's places: those that some key that is come to is for. Conditions: the machine's numbers are numbers of 64 bits. -/
import Derived.Test.YthdlfepakkihnaaReachS
namespace Go.Proofs.Ythdlfepakkihnaa
open Go.RowKit
set_option linter.unusedVariables false
set_option linter.unusedSimpArgs false
set_option maxRecDepth 100000
theorem keyOk_wfP {k : Key} (h : keyOk k = true) : k.Wf := by
  obtain ⟨h1, h2, h3, h4, h5⟩ := keyOk_iff.1 h
  exact ⟨by unfold i64; omega, by unfold i64; omega, by unfold i64; omega, by unfold i64; omega, by unfold i64; omega⟩
theorem reachS_ok {deep : Bool} {m : Mach} (h : MachOk m) : ∀ k ∈ reachS deep m, keyOk k = true := fun x hx => by
  obtain ⟨k, hk, hc⟩ := (reachS_iff deep m x).1 hx
  refine Come.ok (deep := deep) (m := m) (fun v hv hi => (valE_is (h.mem v hv) hi).1) ?_ hc
  unfold rootsK at hk
  rcases List.mem_cons.1 hk with rfl | hk
  · exact h.code
  · rcases List.mem_append.1 hk with hk | hk
    · obtain ⟨v, hv, hi, rfl⟩ := keysOf_mem.1 hk
      exact (valE_is (h.regs v hv) hi).1
    · split at hk
      · obtain ⟨f, hf, hk⟩ := List.mem_flatMap.1 hk
        rcases List.mem_cons.1 hk with rfl | hk
        · exact (h.stack f hf).1
        · obtain ⟨v, hv, hi, rfl⟩ := keysOf_mem.1 hk
          rw [List.mem_singleton.1 hv] at hi ⊢
          exact (valE_is (h.stack f hf).2 hi).1
      · cases hk
theorem c_counts1 (gs : Nat) (deep : Bool) (sc : Array Value) (hs : sc[2]? = some (.bool deep)) (k : Key) (w : World) (hI : InvT (Blks [.box gs 120 sc]) w [.box gs 120 sc] w) :
    Calls Try.prog 62 #[.pointer (some ⟨gs, 0, none⟩), .agg #[.int .i64 k.perm, .int .i64 k.base, .int .i64 k.len, .int .i64 k.pos, .int .i64 k.tag]] w (fun e w' => e = .returned (.bool (countsB deep k)) ∧ InvT (Blks [.box gs 120 sc]) w [.box gs 120 sc] w') := by
  generalize Blks [.box gs 120 sc] = T at hI ⊢
  unfold countsB
  (try have c0 := hI.cell (i := 0) rfl); (try have c1 := hI.cell (i := 1) rfl); (try have c2 := hI.cell (i := 2) rfl); (try have c3 := hI.cell (i := 3) rfl); (try have c4 := hI.cell (i := 4) rfl); (try have c5 := hI.cell (i := 5) rfl); (try have c6 := hI.cell (i := 6) rfl); (try have c7 := hI.cell (i := 7) rfl); (try have c8 := hI.cell (i := 8) rfl); (try have c9 := hI.cell (i := 9) rfl); (try have c10 := hI.cell (i := 10) rfl); (try have c11 := hI.cell (i := 11) rfl); skip
  cases deep
  all_goals
    go_enter Try.func62, Try.ntmps62
    go_wp2_with (first | (refine listI rfl fun K hK => wpI_box _ _ rfl hI rfl fun gx w' hI' hb => hK _ _ ?_; clear hK K; (try replace HM1 := Lib.hid (HM1.out.grow hb)); (try replace HM2 := Lib.hid (HM2.out.grow hb)); (try replace HM3 := Lib.hid (HM3.out.grow hb)); (try replace HM4 := Lib.hid (HM4.out.grow hb)); (try clear hb); clear hI; have hI := hI'; clear hI'; (try simp only [List.cons_append, List.nil_append, List.set_cons_zero, List.set_cons_succ, List.setIfInBounds_toArray, Act.put, Act.eval, Array.getD_eq_getD_getElem?, List.getElem?_toArray, List.getElem?_cons_zero, List.getElem?_cons_succ, Option.getD_some] at hI); (try clear c0); (try clear c1); (try clear c2); (try clear c3); (try clear c4); (try clear c5); (try clear c6); (try clear c7); (try clear c8); (try clear c9); (try clear c10); (try clear c11); (try have c0 := hI.cell (i := 0) rfl); (try have c1 := hI.cell (i := 1) rfl); (try have c2 := hI.cell (i := 2) rfl); (try have c3 := hI.cell (i := 3) rfl); (try have c4 := hI.cell (i := 4) rfl); (try have c5 := hI.cell (i := 5) rfl); (try have c6 := hI.cell (i := 6) rfl); (try have c7 := hI.cell (i := 7) rfl); (try have c8 := hI.cell (i := 8) rfl); (try have c9 := hI.cell (i := 9) rfl); (try have c10 := hI.cell (i := 10) rfl); (try have c11 := hI.cell (i := 11) rfl); skip) | (refine listI rfl fun K hK => wpI_box1 _ _ rfl hI rfl rfl fun gx w' hI' hb => hK _ _ ?_; clear hK K; (try replace HM1 := Lib.hid (HM1.out.grow hb)); (try replace HM2 := Lib.hid (HM2.out.grow hb)); (try replace HM3 := Lib.hid (HM3.out.grow hb)); (try replace HM4 := Lib.hid (HM4.out.grow hb)); (try clear hb); clear hI; have hI := hI'; clear hI'; (try simp only [List.cons_append, List.nil_append, List.set_cons_zero, List.set_cons_succ, List.setIfInBounds_toArray, Act.put, Act.eval, Array.getD_eq_getD_getElem?, List.getElem?_toArray, List.getElem?_cons_zero, List.getElem?_cons_succ, Option.getD_some] at hI); (try clear c0); (try clear c1); (try clear c2); (try clear c3); (try clear c4); (try clear c5); (try clear c6); (try clear c7); (try clear c8); (try clear c9); (try clear c10); (try clear c11); (try have c0 := hI.cell (i := 0) rfl); (try have c1 := hI.cell (i := 1) rfl); (try have c2 := hI.cell (i := 2) rfl); (try have c3 := hI.cell (i := 3) rfl); (try have c4 := hI.cell (i := 4) rfl); (try have c5 := hI.cell (i := 5) rfl); (try have c6 := hI.cell (i := 6) rfl); (try have c7 := hI.cell (i := 7) rfl); (try have c8 := hI.cell (i := 8) rfl); (try have c9 := hI.cell (i := 9) rfl); (try have c10 := hI.cell (i := 10) rfl); (try have c11 := hI.cell (i := 11) rfl); skip) | fail)
    go_returns
    exact ⟨by simp, hI.first [_] [_] rfl⟩
/-- a call that hands back numbers and an error -/
def RetPl (w : World) (l : List Int) (e : Int) : Ending → World → Prop := fun ed w' => ∃ (A : Option Addr) (c : Nat), ed = .returned (.tuple #[.slice A l.length c, .int .i64 e]) ∧ Lies encI 1 w' w'.heap.size A l ∧ Below w.heap.size w w'
theorem c_places_no (mc : Array Value) (m : Mach) (p : Int) (deep : Bool) (f t : Int) (w : World) (hm : MachV w w.heap.size mc m) (h0 : (machE m != 0) = true) :
    Calls Try.prog 27 #[.agg mc, .int .i64 p, .bool deep, .int .i64 f, .int .i64 t] w (RetPl w [] (machE m)) := by
  have HM := Lib.hid hm
  have HSZ := Lib.hid hm.size
  obtain ⟨e, he⟩ : ∃ e, machE m = e := ⟨_, rfl⟩
  have HC := Lib.hid (fun w1 h => c_sought_no mc m deep w1 h h0)
  rw [he] at h0 HC ⊢
  clear hm he
  have hI := Inv.start w
  go_enter Try.func27, Try.ntmps27
  go_wp2_with (first
    | (refine listI rfl fun K hK => wpI_box _ _ rfl hI rfl fun gx w' hI' hb => hK _ _ ?_; clear hK K; (try replace HM1 := Lib.hid (HM1.out.grow hb)); (try replace HM2 := Lib.hid (HM2.out.grow hb)); (try replace HM3 := Lib.hid (HM3.out.grow hb)); (try replace HM4 := Lib.hid (HM4.out.grow hb)); (try clear hb); clear hI; have hI := hI'; clear hI'; (try simp only [List.cons_append, List.nil_append, List.set_cons_zero, List.set_cons_succ, List.setIfInBounds_toArray, Act.put, Act.eval, Array.getD_eq_getD_getElem?, List.getElem?_toArray, List.getElem?_cons_zero, List.getElem?_cons_succ, Option.getD_some] at hI); (try clear c0); (try clear c1); (try clear c2); (try clear c3); (try clear c4); (try clear c5); (try clear c6); (try clear c7); (try clear c8); (try clear c9); (try clear c10); (try clear c11); (try have c0 := hI.cell (i := 0) rfl); (try have c1 := hI.cell (i := 1) rfl); (try have c2 := hI.cell (i := 2) rfl); (try have c3 := hI.cell (i := 3) rfl); (try have c4 := hI.cell (i := 4) rfl); (try have c5 := hI.cell (i := 5) rfl); (try have c6 := hI.cell (i := 6) rfl); (try have c7 := hI.cell (i := 7) rfl); (try have c8 := hI.cell (i := 8) rfl); (try have c9 := hI.cell (i := 9) rfl); (try have c10 := hI.cell (i := 10) rfl); (try have c11 := hI.cell (i := 11) rfl); skip) | (refine listI rfl fun K hK => wpI_box1 _ _ rfl hI rfl rfl fun gx w' hI' hb => hK _ _ ?_; clear hK K; (try replace HM1 := Lib.hid (HM1.out.grow hb)); (try replace HM2 := Lib.hid (HM2.out.grow hb)); (try replace HM3 := Lib.hid (HM3.out.grow hb)); (try replace HM4 := Lib.hid (HM4.out.grow hb)); (try clear hb); clear hI; have hI := hI'; clear hI'; (try simp only [List.cons_append, List.nil_append, List.set_cons_zero, List.set_cons_succ, List.setIfInBounds_toArray, Act.put, Act.eval, Array.getD_eq_getD_getElem?, List.getElem?_toArray, List.getElem?_cons_zero, List.getElem?_cons_succ, Option.getD_some] at hI); (try clear c0); (try clear c1); (try clear c2); (try clear c3); (try clear c4); (try clear c5); (try clear c6); (try clear c7); (try clear c8); (try clear c9); (try clear c10); (try clear c11); (try have c0 := hI.cell (i := 0) rfl); (try have c1 := hI.cell (i := 1) rfl); (try have c2 := hI.cell (i := 2) rfl); (try have c3 := hI.cell (i := 3) rfl); (try have c4 := hI.cell (i := 4) rfl); (try have c5 := hI.cell (i := 5) rfl); (try have c6 := hI.cell (i := 6) rfl); (try have c7 := hI.cell (i := 7) rfl); (try have c8 := hI.cell (i := 8) rfl); (try have c9 := hI.cell (i := 9) rfl); (try have c10 := hI.cell (i := 10) rfl); (try have c11 := hI.cell (i := 11) rfl); skip)
    | (refine wpList_load_box rfl 31 _ rfl (hI.box (i := 0) rfl) rfl Try.underlying31 rfl (by rw [HSZ.out]; kernel_rfl) ?_)
    | (go_at_call 52; (with_reducible refine (HC.out _ (hI.mach HM.out)).mono ?_); intro e w' hr; obtain ⟨rfl, hb⟩ := hr; have hI' := hI.on hb; (try replace HM1 := Lib.hid (HM1.out.grow hb)); (try replace HM2 := Lib.hid (HM2.out.grow hb)); (try replace HM3 := Lib.hid (HM3.out.grow hb)); (try replace HM4 := Lib.hid (HM4.out.grow hb)); (try clear hb); clear hI; have hI := hI'; clear hI'; (try simp only [List.cons_append, List.nil_append, List.set_cons_zero, List.set_cons_succ, List.setIfInBounds_toArray, Act.put, Act.eval, Array.getD_eq_getD_getElem?, List.getElem?_toArray, List.getElem?_cons_zero, List.getElem?_cons_succ, Option.getD_some] at hI); (try clear c0); (try clear c1); (try clear c2); (try clear c3); (try clear c4); (try clear c5); (try clear c6); (try clear c7); (try clear c8); (try clear c9); (try clear c10); (try clear c11); (try have c0 := hI.cell (i := 0) rfl); (try have c1 := hI.cell (i := 1) rfl); (try have c2 := hI.cell (i := 2) rfl); (try have c3 := hI.cell (i := 3) rfl); (try have c4 := hI.cell (i := 4) rfl); (try have c5 := hI.cell (i := 5) rfl); (try have c6 := hI.cell (i := 6) rfl); (try have c7 := hI.cell (i := 7) rfl); (try have c8 := hI.cell (i := 8) rfl); (try have c9 := hI.cell (i := 9) rfl); (try have c10 := hI.cell (i := 10) rfl); (try have c11 := hI.cell (i := 11) rfl); skip) | fail)
  go_returns
  exact ⟨none, 0, rfl, Lies.nil_, hI.below⟩
def seenOf (w : World) (r : Nat) : Nat := match w.heap[r]? with | some (.mapIter _ _ s _) => s.size | _ => 0
theorem seenOf_eq {T : Nat → Prop} {w0 w : World} {rs : List Res} (h : InvT T w0 rs w) {i r g : Nat} {l : List Key} {sn : Array Nat} (hi : rs[i]? = some (.obj r (iterO g l sn))) : seenOf w r = sn.size := by
  have : w.heap[r]? = some (iterO g l sn) := h.ok i _ hi
  unfold seenOf; rw [this]; rfl
theorem seen_lt {S : List Key} {sn : Array Nat} {q : Nat} {k : Key} (hn : sn.toList.Nodup) (hr : ∀ q ∈ sn, q < S.length) (hq : S[q]? = some k) (hns : ¬ q ∈ sn) : sn.size < S.length ∧ (sn.push q).toList.Nodup ∧ ∀ r ∈ sn.push q, r < S.length := by
  have hql := (List.getElem?_eq_some_iff.1 hq).1
  have h1 : (sn.push q).toList.Nodup := by
    rw [Array.toList_push]
    refine List.nodup_append.2 ⟨hn, by simp, fun a ha b hb => ?_⟩
    rw [List.mem_singleton.1 hb]
    exact fun e => hns (by rw [← e]; exact Array.mem_def.2 ha)
  have h2 : ∀ r ∈ sn.push q, r < S.length := fun r h => by
    rcases Array.mem_push.1 h with h | rfl
    · exact hr r h
    · exact hql
  have h3 := h1.length_le_of_subset (l₂ := List.range S.length) fun r h => List.mem_range.2 (h2 r (Array.mem_def.2 h))
  rw [Array.toList_push, List.length_append, List.length_range, Array.length_toList] at h3
  simp only [List.length_cons, List.length_nil] at h3
  exact ⟨by omega, h1, h2⟩
set_option maxHeartbeats 4000000 in
theorem c_places_ok (mc : Array Value) (m : Mach) (p : Int) (deep : Bool) (st n TO : Nat) (w : World) (hTO : TO = st + n) (hn : TO ≤ 500) (hm : MachV w w.heap.size mc m) (h0 : (machE m != 0) = false) :
    Calls Try.prog 27 #[.agg mc, .int .i64 p, .bool deep, .int .i64 st, .int .i64 TO] w (RetPl w (placesF (reachS deep m) deep p st n) 0) := by
  have HM := Lib.hid hm
  have HSZ := Lib.hid hm.size
  have HC := Lib.hid (fun w1 h => c_sought_ok mc m deep w1 h h0)
  have HOK := Lib.hid (reachS_ok (deep := deep) (machE_ok h0))
  obtain ⟨S, hS⟩ : ∃ S, reachS deep m = S := ⟨_, rfl⟩
  rw [hS] at HC HOK ⊢
  have HTO := Lib.hid hTO
  clear hm hS h0 hTO
  have hI := Inv.start w
  go_enter Try.func27, Try.ntmps27
  go_wp2_with (first
    | ((first | (refine listI rfl fun K hK => wpI_box _ _ rfl hI rfl fun gx w' hI' hb => hK _ _ ?_; clear hK K; (try replace HM1 := Lib.hid (HM1.out.grow hb)); (try replace HM2 := Lib.hid (HM2.out.grow hb)); (try replace HM3 := Lib.hid (HM3.out.grow hb)); (try replace HM4 := Lib.hid (HM4.out.grow hb)); (try clear hb); clear hI; have hI := hI'; clear hI'; (try simp only [List.cons_append, List.nil_append, List.set_cons_zero, List.set_cons_succ, List.setIfInBounds_toArray, Act.put, Act.eval, Array.getD_eq_getD_getElem?, List.getElem?_toArray, List.getElem?_cons_zero, List.getElem?_cons_succ, Option.getD_some] at hI); (try clear c0); (try clear c1); (try clear c2); (try clear c3); (try clear c4); (try clear c5); (try clear c6); (try clear c7); (try clear c8); (try clear c9); (try clear c10); (try clear c11); (try have c0 := hI.cell (i := 0) rfl); (try have c1 := hI.cell (i := 1) rfl); (try have c2 := hI.cell (i := 2) rfl); (try have c3 := hI.cell (i := 3) rfl); (try have c4 := hI.cell (i := 4) rfl); (try have c5 := hI.cell (i := 5) rfl); (try have c6 := hI.cell (i := 6) rfl); (try have c7 := hI.cell (i := 7) rfl); (try have c8 := hI.cell (i := 8) rfl); (try have c9 := hI.cell (i := 9) rfl); (try have c10 := hI.cell (i := 10) rfl); (try have c11 := hI.cell (i := 11) rfl); skip) | (refine listI rfl fun K hK => wpI_box1 _ _ rfl hI rfl rfl fun gx w' hI' hb => hK _ _ ?_; clear hK K; (try replace HM1 := Lib.hid (HM1.out.grow hb)); (try replace HM2 := Lib.hid (HM2.out.grow hb)); (try replace HM3 := Lib.hid (HM3.out.grow hb)); (try replace HM4 := Lib.hid (HM4.out.grow hb)); (try clear hb); clear hI; have hI := hI'; clear hI'; (try simp only [List.cons_append, List.nil_append, List.set_cons_zero, List.set_cons_succ, List.setIfInBounds_toArray, Act.put, Act.eval, Array.getD_eq_getD_getElem?, List.getElem?_toArray, List.getElem?_cons_zero, List.getElem?_cons_succ, Option.getD_some] at hI); (try clear c0); (try clear c1); (try clear c2); (try clear c3); (try clear c4); (try clear c5); (try clear c6); (try clear c7); (try clear c8); (try clear c9); (try clear c10); (try clear c11); (try have c0 := hI.cell (i := 0) rfl); (try have c1 := hI.cell (i := 1) rfl); (try have c2 := hI.cell (i := 2) rfl); (try have c3 := hI.cell (i := 3) rfl); (try have c4 := hI.cell (i := 4) rfl); (try have c5 := hI.cell (i := 5) rfl); (try have c6 := hI.cell (i := 6) rfl); (try have c7 := hI.cell (i := 7) rfl); (try have c8 := hI.cell (i := 8) rfl); (try have c9 := hI.cell (i := 9) rfl); (try have c10 := hI.cell (i := 10) rfl); (try have c11 := hI.cell (i := 11) rfl); skip)); obtain ⟨gm, rfl⟩ : ∃ y, y = gx := ⟨_, rfl⟩)
    | (refine wpList_load_box rfl 31 _ rfl (hI.box (i := 0) rfl) rfl Try.underlying31 rfl (by rw [HSZ.out]; kernel_rfl) ?_)
    | (go_at_call 52; refine (HC.out _ (hI.mach HM.out)).mono ?_; rintro e w' ⟨gs, g, a, A, rfl, hI2⟩; have hI' := hI.joinP hI2; have hb := hI2.below; simp only [seekR] at hI'; clear hI2; (try replace HM1 := Lib.hid (HM1.out.grow hb)); (try replace HM2 := Lib.hid (HM2.out.grow hb)); (try replace HM3 := Lib.hid (HM3.out.grow hb)); (try replace HM4 := Lib.hid (HM4.out.grow hb)); (try clear hb); clear hI; have hI := hI'; clear hI'; (try simp only [List.cons_append, List.nil_append, List.set_cons_zero, List.set_cons_succ, List.setIfInBounds_toArray, Act.put, Act.eval, Array.getD_eq_getD_getElem?, List.getElem?_toArray, List.getElem?_cons_zero, List.getElem?_cons_succ, Option.getD_some] at hI); (try clear c0); (try clear c1); (try clear c2); (try clear c3); (try clear c4); (try clear c5); (try clear c6); (try clear c7); (try clear c8); (try clear c9); (try clear c10); (try clear c11); (try have c0 := hI.cell (i := 0) rfl); (try have c1 := hI.cell (i := 1) rfl); (try have c2 := hI.cell (i := 2) rfl); (try have c3 := hI.cell (i := 3) rfl); (try have c4 := hI.cell (i := 4) rfl); (try have c5 := hI.cell (i := 5) rfl); (try have c6 := hI.cell (i := 6) rfl); (try have c7 := hI.cell (i := 7) rfl); (try have c8 := hI.cell (i := 8) rfl); (try have c9 := hI.cell (i := 9) rfl); (try have c10 := hI.cell (i := 10) rfl); (try have c11 := hI.cell (i := 11) rfl); skip)
    | fail)
  replace hI := (hI.pickF [1, 2, 0] (by decide)).nilrow 3 1
  simp only [pkf, List.cons_append, List.nil_append] at hI
  obtain ⟨sc, hsc⟩ : ∃ sc : Array Value, #[.map (some g), .slice A m.mem.length a, .bool deep] = sc := ⟨_, rfl⟩
  have HSC := Lib.hid hsc
  have hsc0 : sc[0]? = some (.map (some g)) := by rw [← hsc]; rfl
  have HSC2 := Lib.hid (show sc[2]? = some (.bool deep) by rw [← hsc]; rfl)
  rw [hsc] at hI
  clear hsc
  go_loopw [14, 15] (fun v14 v wr => ∃ (vo : Value) (i N : Nat), v14 = vo ∧ v = .int .i64 N ∧ N = st + i ∧ i ≤ n ∧ Inv w [.box gs 120 sc, .obj g (setKO S), .box gm 31 mc, .row 3 1 vo (placesF S deep p st i).length ((placesF S deep p st i).flatMap encI)] wr) (fun _ v _ => (st + n - intOf v).toNat)
  case atStart => exact ⟨_, 0, st, rfl, rfl, rfl, by omega, hI⟩
  case round =>
    clear hI
    (try clear c0)
    (try clear c2)
    obtain ⟨vo, i, N, rfl, rfl, hN, hi, hI⟩ := hrel
    obtain ⟨PL, hPL⟩ : ∃ PL, placesF S deep p st i = PL := ⟨_, rfl⟩
    have hpl : PL.length ≤ 500 := by rw [← hPL]; have h1 := placesF_len S deep p st i; have h2 := HTO.out; omega
    have HNX := Lib.hid (placesF_next S deep p st i)
    rw [hPL] at hI HNX
    have HN := Lib.hid hN
    have hN5 : N ≤ 500 := by have h2 := HTO.out; omega
    rw [← hN] at HNX
    have HPLe := Lib.hid hPL
    clear hPL
    rcases Nat.lt_or_ge i n with hlt | hge
    · have hd1 : decide (N < TO) = true := by have h2 := HTO.out; simp; omega
      have hNT : N < TO := by have h2 := HTO.out; omega
      clear hN
      (try have c0 := hI.cell (i := 0) rfl); (try have c1 := hI.cell (i := 1) rfl); (try have c2 := hI.cell (i := 2) rfl); (try have c3 := hI.cell (i := 3) rfl); (try have c4 := hI.cell (i := 4) rfl); (try have c5 := hI.cell (i := 5) rfl); (try have c6 := hI.cell (i := 6) rfl); (try have c7 := hI.cell (i := 7) rfl); (try have c8 := hI.cell (i := 8) rfl); (try have c9 := hI.cell (i := 9) rfl); (try have c10 := hI.cell (i := 10) rfl); (try have c11 := hI.cell (i := 11) rfl); skip
      go_wp2_with (first
        | ((first | (refine listI rfl fun K hK => wpI_keyRange _ rfl hI rfl 1 rfl fun gx w' hI' hb => hK _ _ ?_; clear hK K; (try replace HM1 := Lib.hid (HM1.out.grow hb)); (try replace HM2 := Lib.hid (HM2.out.grow hb)); (try replace HM3 := Lib.hid (HM3.out.grow hb)); (try replace HM4 := Lib.hid (HM4.out.grow hb)); (try clear hb); clear hI; have hI := hI'; clear hI'; (try simp only [List.cons_append, List.nil_append, List.set_cons_zero, List.set_cons_succ, List.setIfInBounds_toArray, Act.put, Act.eval, Array.getD_eq_getD_getElem?, List.getElem?_toArray, List.getElem?_cons_zero, List.getElem?_cons_succ, Option.getD_some] at hI); (try clear c0); (try clear c1); (try clear c2); (try clear c3); (try clear c4); (try clear c5); (try clear c6); (try clear c7); (try clear c8); (try clear c9); (try clear c10); (try clear c11); (try have c0 := hI.cell (i := 0) rfl); (try have c1 := hI.cell (i := 1) rfl); (try have c2 := hI.cell (i := 2) rfl); (try have c3 := hI.cell (i := 3) rfl); (try have c4 := hI.cell (i := 4) rfl); (try have c5 := hI.cell (i := 5) rfl); (try have c6 := hI.cell (i := 6) rfl); (try have c7 := hI.cell (i := 7) rfl); (try have c8 := hI.cell (i := 8) rfl); (try have c9 := hI.cell (i := 9) rfl); (try have c10 := hI.cell (i := 10) rfl); (try have c11 := hI.cell (i := 11) rfl); skip)); obtain ⟨r, rfl⟩ : ∃ y, y = gx := ⟨_, rfl⟩) | fail)
      (try simp only [Act.put, List.setIfInBounds_toArray, List.set_cons_zero, List.set_cons_succ])
      go_loopw [14, 16] (fun v14 _ wr => v14 = u14 ∧ ∃ sn : Array Nat, sn.toList.Nodup ∧ (∀ q ∈ sn, q < S.length) ∧ (∀ q k, q ∈ sn → S[q]? = some k → forB deep p N k = false) ∧ Inv w [.box gs 120 sc, .obj g (setKO S), .box gm 31 mc, .row 3 1 u14 PL.length (PL.flatMap encI), .obj r (iterO g S sn)] wr) (fun _ _ wr => S.length - seenOf wr r)
      case atStart => exact ⟨rfl, #[], by simp, by simp, by simp, hI⟩
      case round =>
        clear hI c0 c2
        obtain ⟨rfl, sn, hnd, hrg, hno, hI⟩ := hrel
        have HND := Lib.hid hnd
        have HRG := Lib.hid hrg
        have HNO := Lib.hid hno
        have HSE := Lib.hid (seenOf_eq hI (i := 4) rfl)
        clear hnd hrg hno
        (try have c0 := hI.cell (i := 0) rfl); (try have c1 := hI.cell (i := 1) rfl); (try have c2 := hI.cell (i := 2) rfl); (try have c3 := hI.cell (i := 3) rfl); (try have c4 := hI.cell (i := 4) rfl); (try have c5 := hI.cell (i := 5) rfl); (try have c6 := hI.cell (i := 6) rfl); (try have c7 := hI.cell (i := 7) rfl); (try have c8 := hI.cell (i := 8) rfl); (try have c9 := hI.cell (i := 9) rfl); (try have c10 := hI.cell (i := 10) rfl); (try have c11 := hI.cell (i := 11) rfl); skip
        go_wp2_with (first
          | (refine listI rfl fun K hK => wpI_keyEntry _ rfl hI rfl 1 4 rfl rfl HQK.out (hK _ _ ?_); clear hK K)
          | (refine listI_var rfl rfl 23 rfl _ _ rfl hI Try.zeroValue23 (fun _ => rfl) (fun _ => rfl) (by first | rfl | (simp only [hsz1]; first | done | rfl | kernel_rfl) | (simp only [hsz2]; first | done | rfl | kernel_rfl) | (simp only [hsz]; first | done | rfl | kernel_rfl) | kernel_rfl) (by first | exact info_mach (by assumption) | (simp only [hsz1]; kernel_rfl) | (simp only [hsz2]; kernel_rfl) | (simp only [hsz]; kernel_rfl) | kernel_rfl) (by first | (simp [Value.oneCell']; done) | exact HO1.out | exact HO2.out) fun gx w' hI' hb => ?_; (try replace HM1 := Lib.hid (HM1.out.grow hb)); (try replace HM2 := Lib.hid (HM2.out.grow hb)); (try replace HM3 := Lib.hid (HM3.out.grow hb)); (try replace HM4 := Lib.hid (HM4.out.grow hb)); (try clear hb); clear hI; have hI := hI'; clear hI'; (try simp only [List.cons_append, List.nil_append, List.set_cons_zero, List.set_cons_succ, List.setIfInBounds_toArray, Act.put, Act.eval, Array.getD_eq_getD_getElem?, List.getElem?_toArray, List.getElem?_cons_zero, List.getElem?_cons_succ, Option.getD_some] at hI); (try clear c0); (try clear c1); (try clear c2); (try clear c3); (try clear c4); (try clear c5); (try clear c6); (try clear c7); (try clear c8); (try clear c9); (try clear c10); (try clear c11); (try have c0 := hI.cell (i := 0) rfl); (try have c1 := hI.cell (i := 1) rfl); (try have c2 := hI.cell (i := 2) rfl); (try have c3 := hI.cell (i := 3) rfl); (try have c4 := hI.cell (i := 4) rfl); (try have c5 := hI.cell (i := 5) rfl); (try have c6 := hI.cell (i := 6) rfl); (try have c7 := hI.cell (i := 7) rfl); (try have c8 := hI.cell (i := 8) rfl); (try have c9 := hI.cell (i := 9) rfl); (try have c10 := hI.cell (i := 10) rfl); (try have c11 := hI.cell (i := 11) rfl); skip)
          | (go_at_call 62; refine (c_counts1 gs deep sc HSC2.out k _ (hI.enter1 (n := 0) rfl)).mono ?_; rintro e w' ⟨rfl, hc2⟩; have hI' := hI.frame1 (n := 0) rfl hc2; clear hc2; (try replace HM1 := Lib.hid (HM1.out.grow hb)); (try replace HM2 := Lib.hid (HM2.out.grow hb)); (try replace HM3 := Lib.hid (HM3.out.grow hb)); (try replace HM4 := Lib.hid (HM4.out.grow hb)); (try clear hb); clear hI; have hI := hI'; clear hI'; (try simp only [List.cons_append, List.nil_append, List.set_cons_zero, List.set_cons_succ, List.setIfInBounds_toArray, Act.put, Act.eval, Array.getD_eq_getD_getElem?, List.getElem?_toArray, List.getElem?_cons_zero, List.getElem?_cons_succ, Option.getD_some] at hI); (try clear c0); (try clear c1); (try clear c2); (try clear c3); (try clear c4); (try clear c5); (try clear c6); (try clear c7); (try clear c8); (try clear c9); (try clear c10); (try clear c11); (try have c0 := hI.cell (i := 0) rfl); (try have c1 := hI.cell (i := 1) rfl); (try have c2 := hI.cell (i := 2) rfl); (try have c3 := hI.cell (i := 3) rfl); (try have c4 := hI.cell (i := 4) rfl); (try have c5 := hI.cell (i := 5) rfl); (try have c6 := hI.cell (i := 6) rfl); (try have c7 := hI.cell (i := 7) rfl); (try have c8 := hI.cell (i := 8) rfl); (try have c9 := hI.cell (i := 9) rfl); (try have c10 := hI.cell (i := 10) rfl); (try have c11 := hI.cell (i := 11) rfl); skip)
          | (go_at_call 63; (with_reducible refine (c_perm_Within _ _ _).mono ?_); rintro e w1 ⟨rfl, rfl⟩)
          | (go_at_call 64; (with_reducible refine (c_keys_Covers k N (keyOk_wfP (HOK.out k (List.mem_of_getElem? HQK.out))) (by unfold i64; omega) _).mono ?_); intro e w' hr; obtain ⟨rfl, hb⟩ := hr; have hI' := hI.on hb; (try replace HM1 := Lib.hid (HM1.out.grow hb)); (try replace HM2 := Lib.hid (HM2.out.grow hb)); (try replace HM3 := Lib.hid (HM3.out.grow hb)); (try replace HM4 := Lib.hid (HM4.out.grow hb)); (try clear hb); clear hI; have hI := hI'; clear hI'; (try simp only [List.cons_append, List.nil_append, List.set_cons_zero, List.set_cons_succ, List.setIfInBounds_toArray, Act.put, Act.eval, Array.getD_eq_getD_getElem?, List.getElem?_toArray, List.getElem?_cons_zero, List.getElem?_cons_succ, Option.getD_some] at hI); (try clear c0); (try clear c1); (try clear c2); (try clear c3); (try clear c4); (try clear c5); (try clear c6); (try clear c7); (try clear c8); (try clear c9); (try clear c10); (try clear c11); (try have c0 := hI.cell (i := 0) rfl); (try have c1 := hI.cell (i := 1) rfl); (try have c2 := hI.cell (i := 2) rfl); (try have c3 := hI.cell (i := 3) rfl); (try have c4 := hI.cell (i := 4) rfl); (try have c5 := hI.cell (i := 5) rfl); (try have c6 := hI.cell (i := 6) rfl); (try have c7 := hI.cell (i := 7) rfl); (try have c8 := hI.cell (i := 8) rfl); (try have c9 := hI.cell (i := 9) rfl); (try have c10 := hI.cell (i := 10) rfl); (try have c11 := hI.cell (i := 11) rfl); skip)
          | (refine listI rfl fun K hK => wpI_slice1 _ 3 _ rfl hI Try.underlying29 (us := #[.int .i64 N]) rfl (size := 1) (by kernel_rfl) rfl fun gx w' hI' hb => hK _ _ ?_; clear hK K; (try replace HM1 := Lib.hid (HM1.out.grow hb)); (try replace HM2 := Lib.hid (HM2.out.grow hb)); (try replace HM3 := Lib.hid (HM3.out.grow hb)); (try replace HM4 := Lib.hid (HM4.out.grow hb)); (try clear hb); clear hI; have hI := hI'; clear hI'; (try simp only [List.cons_append, List.nil_append, List.set_cons_zero, List.set_cons_succ, List.setIfInBounds_toArray, Act.put, Act.eval, Array.getD_eq_getD_getElem?, List.getElem?_toArray, List.getElem?_cons_zero, List.getElem?_cons_succ, Option.getD_some] at hI); (try clear c0); (try clear c1); (try clear c2); (try clear c3); (try clear c4); (try clear c5); (try clear c6); (try clear c7); (try clear c8); (try clear c9); (try clear c10); (try clear c11); (try have c0 := hI.cell (i := 0) rfl); (try have c1 := hI.cell (i := 1) rfl); (try have c2 := hI.cell (i := 2) rfl); (try have c3 := hI.cell (i := 3) rfl); (try have c4 := hI.cell (i := 4) rfl); (try have c5 := hI.cell (i := 5) rfl); (try have c6 := hI.cell (i := 6) rfl); (try have c7 := hI.cell (i := 7) rfl); (try have c8 := hI.cell (i := 8) rfl); (try have c9 := hI.cell (i := 9) rfl); (try have c10 := hI.cell (i := 10) rfl); (try have c11 := hI.cell (i := 11) rfl); skip)
          | (refine listI rfl fun K hK => wpI_app _ _ rfl el_I hI 3 rfl rfl (ys := [(N : Int)]) rfl (hI.lies1 (i := 6) rfl _ (fun j hj => by rw [List.getElem?_toArray]; rfl)) rfl (by unfold maxLen; simp only [List.length_cons, List.length_nil]; omega) (by simp only [List.length_cons, List.length_nil]; omega) fun v' w' hI' => hK _ _ ?_; clear hK K; (try replace HM1 := Lib.hid (HM1.out.grow hb)); (try replace HM2 := Lib.hid (HM2.out.grow hb)); (try replace HM3 := Lib.hid (HM3.out.grow hb)); (try replace HM4 := Lib.hid (HM4.out.grow hb)); (try clear hb); clear hI; have hI := hI'; clear hI'; (try simp only [List.cons_append, List.nil_append, List.set_cons_zero, List.set_cons_succ, List.setIfInBounds_toArray, Act.put, Act.eval, Array.getD_eq_getD_getElem?, List.getElem?_toArray, List.getElem?_cons_zero, List.getElem?_cons_succ, Option.getD_some] at hI); (try clear c0); (try clear c1); (try clear c2); (try clear c3); (try clear c4); (try clear c5); (try clear c6); (try clear c7); (try clear c8); (try clear c9); (try clear c10); (try clear c11); (try have c0 := hI.cell (i := 0) rfl); (try have c1 := hI.cell (i := 1) rfl); (try have c2 := hI.cell (i := 2) rfl); (try have c3 := hI.cell (i := 3) rfl); (try have c4 := hI.cell (i := 4) rfl); (try have c5 := hI.cell (i := 5) rfl); (try have c6 := hI.cell (i := 6) rfl); (try have c7 := hI.cell (i := 7) rfl); (try have c8 := hI.cell (i := 8) rfl); (try have c9 := hI.cell (i := 9) rfl); (try have c10 := hI.cell (i := 10) rfl); (try have c11 := hI.cell (i := 11) rfl); skip)
          | ((refine listI rfl fun K hK => wpI_keyNext _ rfl hI rfl 1 4 rfl rfl (fun hall => hK _ _ ?_) (fun q k w' hqk hns hI' => hK _ _ ?_)); rotate_left; (focus (clear hK K; (try replace HM1 := Lib.hid (HM1.out.grow hb)); (try replace HM2 := Lib.hid (HM2.out.grow hb)); (try replace HM3 := Lib.hid (HM3.out.grow hb)); (try replace HM4 := Lib.hid (HM4.out.grow hb)); (try clear hb); clear hI; have hI := hI'; clear hI'; (try simp only [List.cons_append, List.nil_append, List.set_cons_zero, List.set_cons_succ, List.setIfInBounds_toArray, Act.put, Act.eval, Array.getD_eq_getD_getElem?, List.getElem?_toArray, List.getElem?_cons_zero, List.getElem?_cons_succ, Option.getD_some] at hI); (try clear c0); (try clear c1); (try clear c2); (try clear c3); (try clear c4); (try clear c5); (try clear c6); (try clear c7); (try clear c8); (try clear c9); (try clear c10); (try clear c11); (try have c0 := hI.cell (i := 0) rfl); (try have c1 := hI.cell (i := 1) rfl); (try have c2 := hI.cell (i := 2) rfl); (try have c3 := hI.cell (i := 3) rfl); (try have c4 := hI.cell (i := 4) rfl); (try have c5 := hI.cell (i := 5) rfl); (try have c6 := hI.cell (i := 6) rfl); (try have c7 := hI.cell (i := 7) rfl); (try have c8 := hI.cell (i := 8) rfl); (try have c9 := hI.cell (i := 9) rfl); (try have c10 := hI.cell (i := 10) rfl); (try have c11 := hI.cell (i := 11) rfl); skip; have HQK := Lib.hid hqk; have HNS := Lib.hid hns; clear hqk hns; cases hc : countsB deep k; rotate_left; cases hw : subB p k.perm; rotate_left; cases hv : cov k N)))
          | fail)
        · have hs := seen_lt HND.out HRG.out HQK.out HNS.out
          refine ⟨⟨rfl, sn.push q, hs.2.1, hs.2.2, fun q' k' hq' hk' => ?_, hI.first [_, _, _, _, _] [_] rfl⟩, ?_⟩
          · rcases Array.mem_push.1 hq' with h1 | rfl
            · exact HNO.out q' k' h1 hk'
            · cases HQK.out.symm.trans hk'; simp [forB, hc, hw, hv]
          · have h1 := hs.1
            rw [seenOf_eq hI (i := 4) rfl, HSE.out, Array.size_push]; omega
        · have hany : S.any (forB deep p N) = true := List.any_eq_true.2 ⟨k, List.mem_of_getElem? HQK.out, by simp [forB, hc, hw, hv]⟩
          refine ⟨⟨_, i + 1, N + 1, rfl, by go_num, by have := HN.out; omega, by omega, by rw [HNX.out, if_pos hany]; exact hI.first [_, _, _, _] [_, _, _] rfl⟩, by have := HN.out; simp [intOf]; omega⟩
        · have hs := seen_lt HND.out HRG.out HQK.out HNS.out
          refine ⟨⟨rfl, sn.push q, hs.2.1, hs.2.2, fun q' k' hq' hk' => ?_, hI.first [_, _, _, _, _] [_] rfl⟩, ?_⟩
          · rcases Array.mem_push.1 hq' with h1 | rfl
            · exact HNO.out q' k' h1 hk'
            · cases HQK.out.symm.trans hk'; simp [forB, hc]
          · have h1 := hs.1
            rw [seenOf_eq hI (i := 4) rfl, HSE.out, Array.size_push]; omega
        · have hs := seen_lt HND.out HRG.out HQK.out HNS.out
          refine ⟨⟨rfl, sn.push q, hs.2.1, hs.2.2, fun q' k' hq' hk' => ?_, hI.first [_, _, _, _, _] [_] rfl⟩, ?_⟩
          · rcases Array.mem_push.1 hq' with h1 | rfl
            · exact HNO.out q' k' h1 hk'
            · cases HQK.out.symm.trans hk'; simp [forB, hc, hw]
          · have h1 := hs.1
            rw [seenOf_eq hI (i := 4) rfl, HSE.out, Array.size_push]; omega
        · have hany : S.any (forB deep p N) = false := by
            rw [List.any_eq_false]
            intro x hx
            obtain ⟨q, hq, he⟩ := List.getElem_of_mem hx
            rw [HNO.out q x (hall q hq) (by rw [List.getElem?_eq_getElem hq, he])]
            simp
          refine ⟨⟨_, i + 1, N + 1, rfl, by go_num, by have := HN.out; omega, by omega, by rw [HNX.out, if_neg (by simp [hany]), List.append_nil]; exact hI.first [_, _, _, _] [_] rfl⟩, by have := HN.out; simp [intOf]; omega⟩
    · have hd1 : decide (N < TO) = false := by have h2 := HTO.out; simp; omega
      have hin : n = i := by omega
      have HIN := Lib.hid hin
      clear hin hN
      obtain ⟨AO, co, hvo⟩ := (hI.own0 (enc := encI) (xs := PL) (size := 1) (i := 3) rfl).form
      subst hvo
      (try have c0 := hI.cell (i := 0) rfl); (try have c1 := hI.cell (i := 1) rfl); (try have c2 := hI.cell (i := 2) rfl); (try have c3 := hI.cell (i := 3) rfl); (try have c4 := hI.cell (i := 4) rfl); (try have c5 := hI.cell (i := 5) rfl); (try have c6 := hI.cell (i := 6) rfl); (try have c7 := hI.cell (i := 7) rfl); (try have c8 := hI.cell (i := 8) rfl); (try have c9 := hI.cell (i := 9) rfl); (try have c10 := hI.cell (i := 10) rfl); (try have c11 := hI.cell (i := 11) rfl); skip
      go_wp2_with fail
      go_returns
      rw [HIN.out, HPLe.out]
      exact ⟨AO, co, rfl, (InvT.own0 (enc := encI) (xs := PL) (size := 1) hI (i := 3) rfl).liesB (fun _ => rfl) rfl, hI.below⟩
end Go.Proofs.Ythdlfepakkihnaa
