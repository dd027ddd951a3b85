/- The contract of link.Link. Conditions: the modules' numbers are numbers of 64 bits. -/
import Derived.Test.YthdlfepakkihnaaLinkC
import Derived.Test.YthdlfepakkihnaaRowSet
import Derived.Test.YthdlfepakkihnaaFind
import Derived.Test.YthdlfepakkihnaaModRf
namespace Go.Proofs.Ythdlfepakkihnaa
open Go.RowKit
set_option linter.unusedVariables false
set_option linter.unusedSimpArgs false
set_option maxRecDepth 100000
/-- a call that hands back an image and an error -/
def RetImg (w : World) (r : (List Val × List Place × List Entry) × Int) : Ending → World → Prop := fun ed w' => ∃ (A P E : Option Addr) (a p e : Nat), ed = .returned (.tuple #[.agg #[.slice A r.1.1.length a, .slice P r.1.2.1.length p, .slice E r.1.2.2.length e], .int .i64 r.2]) ∧
  Lies encV 7 w' w'.heap.size A r.1.1 ∧ Lies encC 4 w' w'.heap.size P r.1.2.1 ∧ Lies encE 11 w' w'.heap.size E r.1.2.2 ∧ Below w.heap.size w w'
set_option maxHeartbeats 4000000 in
theorem c_link_no (L : Option Addr) (c : Nat) (xs : List ModA) (w : World) (h1 : xs.length ≤ c) (h2 : c ≤ maxLen) (hM : ModsV w w.heap.size L xs) (h0 : ¬ linkE (xs.map (·.m)) = 0) :
    Calls Try.prog 14 #[.slice L xs.length c] w (RetImg w (linkF (xs.map (·.m)))) := by
  have HC := Lib.hid (fun w hM => c_link_check L c xs w h1 h2 hM)
  have hf : linkF (xs.map (·.m)) = (([], [], []), linkE (xs.map (·.m))) := by unfold linkF; rw [if_neg h0]
  have HM := Lib.hid hM
  rw [hf]
  clear hM hf
  generalize linkE (xs.map (·.m)) = e0 at *
  have h0' : (e0 != 0) = true := by simpa using h0
  have hI := Inv.start w
  go_enter Try.func14, Try.ntmps14
  go_wp2_with (first | (refine listI rfl fun K hK => wpI_alloc 43 rfl hI Try.zeroValue43 (cs := #[.slice none 0 0, .slice none 0 0, .slice none 0 0]) (by first | rfl | kernel_rfl) fun gx w' hI' hb => hK _ _ ?_; clear hK K; (try replace HM1 := Lib.hid (HM1.out.grow hb)); (try replace HM2 := Lib.hid (HM2.out.grow hb)); (try replace HM3 := Lib.hid (HM3.out.grow hb)); (try replace HM4 := Lib.hid (HM4.out.grow hb)); (try clear hb); clear hI; have hI := hI'; clear hI'; (try simp only [List.cons_append, List.nil_append, List.set_cons_zero, List.set_cons_succ, List.setIfInBounds_toArray, Act.put, Act.eval, Array.getD_eq_getD_getElem?, List.getElem?_toArray, List.getElem?_cons_zero, List.getElem?_cons_succ, Option.getD_some] at hI); (try clear c0); (try clear c1); (try clear c2); (try clear c3); (try clear c4); (try clear c5); (try clear c6); (try clear c7); (try clear c8); (try clear c9); (try clear c10); (try clear c11); (try have c0 := hI.cell (i := 0) rfl); (try have c1 := hI.cell (i := 1) rfl); (try have c2 := hI.cell (i := 2) rfl); (try have c3 := hI.cell (i := 3) rfl); (try have c4 := hI.cell (i := 4) rfl); (try have c5 := hI.cell (i := 5) rfl); (try have c6 := hI.cell (i := 6) rfl); (try have c7 := hI.cell (i := 7) rfl); (try have c8 := hI.cell (i := 8) rfl); (try have c9 := hI.cell (i := 9) rfl); (try have c10 := hI.cell (i := 10) rfl); (try have c11 := hI.cell (i := 11) rfl); skip) | (go_at_call 33; (with_reducible refine (HC.out _ ((HM.out.below hI.below).more hI.size)).mono ?_); intro e w' hr; obtain ⟨rfl, hb⟩ := hr; have hI' := hI.on hb; (try replace HM1 := Lib.hid (HM1.out.grow hb)); (try replace HM2 := Lib.hid (HM2.out.grow hb)); (try replace HM3 := Lib.hid (HM3.out.grow hb)); (try replace HM4 := Lib.hid (HM4.out.grow hb)); (try clear hb); clear hI; have hI := hI'; clear hI'; (try simp only [List.cons_append, List.nil_append, List.set_cons_zero, List.set_cons_succ, List.setIfInBounds_toArray, Act.put, Act.eval, Array.getD_eq_getD_getElem?, List.getElem?_toArray, List.getElem?_cons_zero, List.getElem?_cons_succ, Option.getD_some] at hI); (try clear c0); (try clear c1); (try clear c2); (try clear c3); (try clear c4); (try clear c5); (try clear c6); (try clear c7); (try clear c8); (try clear c9); (try clear c10); (try clear c11); (try have c0 := hI.cell (i := 0) rfl); (try have c1 := hI.cell (i := 1) rfl); (try have c2 := hI.cell (i := 2) rfl); (try have c3 := hI.cell (i := 3) rfl); (try have c4 := hI.cell (i := 4) rfl); (try have c5 := hI.cell (i := 5) rfl); (try have c6 := hI.cell (i := 6) rfl); (try have c7 := hI.cell (i := 7) rfl); (try have c8 := hI.cell (i := 8) rfl); (try have c9 := hI.cell (i := 9) rfl); (try have c10 := hI.cell (i := 10) rfl); (try have c11 := hI.cell (i := 11) rfl); skip) | (refine listI rfl fun K hK => wpI_storeW _ _ _ rfl hI rfl 0 rfl rfl rfl (by kernel_rfl) (by simp [Value.oneCell']) fun w' hI' => hK _ _ ?_; clear hK K; (try replace HM1 := Lib.hid (HM1.out.grow hb)); (try replace HM2 := Lib.hid (HM2.out.grow hb)); (try replace HM3 := Lib.hid (HM3.out.grow hb)); (try replace HM4 := Lib.hid (HM4.out.grow hb)); (try clear hb); clear hI; have hI := hI'; clear hI'; (try simp only [List.cons_append, List.nil_append, List.set_cons_zero, List.set_cons_succ, List.setIfInBounds_toArray, Act.put, Act.eval, Array.getD_eq_getD_getElem?, List.getElem?_toArray, List.getElem?_cons_zero, List.getElem?_cons_succ, Option.getD_some] at hI); (try clear c0); (try clear c1); (try clear c2); (try clear c3); (try clear c4); (try clear c5); (try clear c6); (try clear c7); (try clear c8); (try clear c9); (try clear c10); (try clear c11); (try have c0 := hI.cell (i := 0) rfl); (try have c1 := hI.cell (i := 1) rfl); (try have c2 := hI.cell (i := 2) rfl); (try have c3 := hI.cell (i := 3) rfl); (try have c4 := hI.cell (i := 4) rfl); (try have c5 := hI.cell (i := 5) rfl); (try have c6 := hI.cell (i := 6) rfl); (try have c7 := hI.cell (i := 7) rfl); (try have c8 := hI.cell (i := 8) rfl); (try have c9 := hI.cell (i := 9) rfl); (try have c10 := hI.cell (i := 10) rfl); (try have c11 := hI.cell (i := 11) rfl); skip) | fail)
  have hbx := hI.box (i := 0) rfl
  ((try simp only [Exit.inBlock, Exit.then]); refine bodyPost_ret (results_ct rfl rfl hbx Try.underlying43 rfl (by kernel_rfl)) rfl ?_)
  exact ⟨none, none, none, 0, 0, 0, rfl, Lies.nil_, Lies.nil_, Lies.nil_, hI.below⟩
theorem linkEs_160 {ms : List Mod} (h8 : ms.length ≤ 8) (h : ∀ m ∈ ms, modE m = 0) (k : Nat) : (linkEs (ms.take k)).length ≤ 160 := by
  have h1 := linkEs_len (ms := ms.take k) fun m hm => h m (List.mem_of_mem_take hm)
  rw [List.length_take] at h1; omega
def partsOf (cs ds : List Int) (q : Nat) : List Int := ([cs, ds].take q).flatten
theorem partsOf_all (cs ds : List Int) {q : Nat} (h : 2 ≤ q) : partsOf cs ds q = cs ++ ds := by unfold partsOf; rw [List.take_of_length_le (by simpa using h)]; simp
theorem twoL {w : World} {B : Nat} {A D : Option Addr} {a d : Nat} {cs ds : List Int} {sl : Array Value} (s0 : sl[0]? = some (.slice A cs.length a)) (s1 : sl[1]? = some (.slice D ds.length d)) (hA : Lies encI 1 w B A cs) (hD : Lies encI 1 w B D ds) {q : Nat} (hq : q < 2) :
    ∃ (Aq : Option Addr) (cq : Nat) (lst : List Int), sl[q]? = some (.slice Aq lst.length cq) ∧ Lies encI 1 w B Aq lst ∧ partsOf cs ds (q + 1) = partsOf cs ds q ++ lst ∧ (partsOf cs ds q).length + lst.length ≤ cs.length + ds.length := by
  match q, hq with
  | 0, _ => exact ⟨A, a, cs, s0, hA, by simp [partsOf], by simp [partsOf]⟩
  | 1, _ => exact ⟨D, d, ds, s1, hD, by simp [partsOf], by simp [partsOf]⟩
theorem any_at {xs : List ModA} {k : Nat} {m : Mod} (h : (xs.map (·.m))[k]? = some m) : m ∈ xs.map (·.m) := List.mem_of_getElem? h
set_option maxHeartbeats 4000000 in
theorem c_link_ok (L : Option Addr) (c : Nat) (xs : List ModA) (w : World) (h1 : xs.length ≤ c) (h2 : c ≤ maxLen) (hM : ModsV w w.heap.size L xs) (h0 : linkE (xs.map (·.m)) = 0) :
    Calls Try.prog 14 #[.slice L xs.length c] w (RetImg w (linkF (xs.map (·.m)))) := by
  have HC := Lib.hid (fun w hM => c_link_check L c xs w h1 h2 hM)
  rw [h0] at HC
  have hf : linkF (xs.map (·.m)) = ((linkMem (xs.map (·.m)), linkP (xs.map (·.m)), linkEs (xs.map (·.m))), 0) := by unfold linkF; rw [if_pos h0]
  have HM := Lib.hid hM
  rw [hf]
  obtain ⟨ms, hms⟩ : ∃ ms, ms = xs.map (·.m) := ⟨_, rfl⟩
  have hlen : ms.length = xs.length := by rw [hms, List.length_map]
  have HX := Lib.hid (fun (k : Nat) (x : ModA) (h : xs[k]? = some x) => (show ms[k]? = some x.m by rw [hms]; exact map_at h))
  rw [← hms] at h0 ⊢
  obtain ⟨hm8, hmE, hm400, hmT, hmI⟩ := linkE_ok h0
  have HE := Lib.hid hmE
  have HIm := Lib.hid hmI
  have H400 := Lib.hid hm400
  have hx8 : xs.length ≤ 8 := by omega
  clear hM hf hms h0 hmE hmI hmT hm400
  have hI := Inv.start w
  go_enter Try.func14, Try.ntmps14
  go_wp2_with (first | ((refine listI rfl fun K hK => wpI_alloc 43 rfl hI Try.zeroValue43 (cs := #[.slice none 0 0, .slice none 0 0, .slice none 0 0]) (by first | rfl | kernel_rfl) fun gx w' hI' hb => hK _ _ ?_; clear hK K; (try replace HM1 := Lib.hid (HM1.out.grow hb)); (try replace HM2 := Lib.hid (HM2.out.grow hb)); (try replace HM3 := Lib.hid (HM3.out.grow hb)); (try replace HM4 := Lib.hid (HM4.out.grow hb)); (try clear hb); clear hI; have hI := hI'; clear hI'; (try simp only [List.cons_append, List.nil_append, List.set_cons_zero, List.set_cons_succ, List.setIfInBounds_toArray, Act.put, Act.eval, Array.getD_eq_getD_getElem?, List.getElem?_toArray, List.getElem?_cons_zero, List.getElem?_cons_succ, Option.getD_some] at hI); (try clear c0); (try clear c1); (try clear c2); (try clear c3); (try clear c4); (try clear c5); (try clear c6); (try clear c7); (try clear c8); (try clear c9); (try clear c10); (try clear c11); (try have c0 := hI.cell (i := 0) rfl); (try have c1 := hI.cell (i := 1) rfl); (try have c2 := hI.cell (i := 2) rfl); (try have c3 := hI.cell (i := 3) rfl); (try have c4 := hI.cell (i := 4) rfl); (try have c5 := hI.cell (i := 5) rfl); (try have c6 := hI.cell (i := 6) rfl); (try have c7 := hI.cell (i := 7) rfl); (try have c8 := hI.cell (i := 8) rfl); (try have c9 := hI.cell (i := 9) rfl); (try have c10 := hI.cell (i := 10) rfl); (try have c11 := hI.cell (i := 11) rfl); skip); obtain ⟨gi, rfl⟩ : ∃ y, y = gx := ⟨_, rfl⟩) | (go_at_call 33; (with_reducible refine (HC.out _ ((HM.out.below hI.below).more hI.size)).mono ?_); intro e w' hr; obtain ⟨rfl, hb⟩ := hr; have hI' := hI.on hb; (try replace HM1 := Lib.hid (HM1.out.grow hb)); (try replace HM2 := Lib.hid (HM2.out.grow hb)); (try replace HM3 := Lib.hid (HM3.out.grow hb)); (try replace HM4 := Lib.hid (HM4.out.grow hb)); (try clear hb); clear hI; have hI := hI'; clear hI'; (try simp only [List.cons_append, List.nil_append, List.set_cons_zero, List.set_cons_succ, List.setIfInBounds_toArray, Act.put, Act.eval, Array.getD_eq_getD_getElem?, List.getElem?_toArray, List.getElem?_cons_zero, List.getElem?_cons_succ, Option.getD_some] at hI); (try clear c0); (try clear c1); (try clear c2); (try clear c3); (try clear c4); (try clear c5); (try clear c6); (try clear c7); (try clear c8); (try clear c9); (try clear c10); (try clear c11); (try have c0 := hI.cell (i := 0) rfl); (try have c1 := hI.cell (i := 1) rfl); (try have c2 := hI.cell (i := 2) rfl); (try have c3 := hI.cell (i := 3) rfl); (try have c4 := hI.cell (i := 4) rfl); (try have c5 := hI.cell (i := 5) rfl); (try have c6 := hI.cell (i := 6) rfl); (try have c7 := hI.cell (i := 7) rfl); (try have c8 := hI.cell (i := 8) rfl); (try have c9 := hI.cell (i := 9) rfl); (try have c10 := hI.cell (i := 10) rfl); (try have c11 := hI.cell (i := 11) rfl); skip) | fail)
  rename_i g0 _ _ _
  replace hI := ((hI.nilrow 25 7).nilrow 55 4).nilrow 58 11
  simp only [List.cons_append, List.nil_append] at hI
  go_loopw [31] (fun v wr => ∃ (k : Nat) (vm vp ve : Value), v = .int .i64 k ∧ k ≤ xs.length ∧ Inv w [.box g0 43 #[.slice none 0 0, .slice none 0 0, .slice none 0 0], .box gi 43 #[vm, vp, ve],
      .row 25 7 vm (mem0 (ms.take k)).length ((mem0 (ms.take k)).flatMap encV), .row 55 4 vp (linkP (ms.take k)).length ((linkP (ms.take k)).flatMap encC), .row 58 11 ve (linkEs (ms.take k)).length ((linkEs (ms.take k)).flatMap encE)] wr) (fun v _ => (xs.length - intOf v).toNat)
  case atStart => exact ⟨0, _, _, _, rfl, by omega, hI⟩
  case round =>
    clear hI c0 c1
    obtain ⟨k, vm, vp, ve, rfl, hk, hI⟩ := hrel
    rcases Nat.lt_or_ge k xs.length with hlt | hge
    · obtain ⟨b, o, x, rfl, hb, hx, hok, hwf, q0, q1, q2, q3⟩ := (HM.out.below hI.below).at_ hlt
      have hb' : b < wr.heap.size := Nat.lt_of_lt_of_le hb hI.size
      have hv := HM.out.ok k x hx
      have hmx := HX.out k x hx
      clear hx hok hwf
      obtain ⟨A, a, D, d, E, e, I, i, m⟩ := x
      have he := hv.exps
      have hcc := hv.code
      have hdd := hv.data
      dsimp only at q0 q1 q2 q3 hmx he hcc hdd
      have hm0 := HE.out m (List.mem_of_getElem? hmx)
      have hsz := modE_sizes (show (modE m != 0) = false by rw [hm0]; rfl)
      have HM0 := Lib.hid hm0
      have HEx := Lib.hid he
      have HCo := Lib.hid hcc
      have HDa := Lib.hid hdd
      have HMx := Lib.hid hmx
      clear hv hmx he hcc hdd hm0
      obtain ⟨P1, hP1⟩ : ∃ P1, linkP (ms.take k) = P1 := ⟨_, rfl⟩
      obtain ⟨E1, hE1⟩ : ∃ E1, linkEs (ms.take k) = E1 := ⟨_, rfl⟩
      obtain ⟨M1, hM1⟩ : ∃ M1, mem0 (ms.take k) = M1 := ⟨_, rfl⟩
      have hM1l : M1.length = cellsN (ms.take k) := by rw [← hM1]; exact mem0_len _
      rw [hP1, hE1, hM1] at hI
      obtain ⟨Am, cm, hvm⟩ := (hI.own0 (enc := encV) (xs := M1) (size := 7) (i := 2) rfl).form
      subst hvm
      have HL1 := Lib.hid hM1l
      obtain ⟨Ap, cp, hvp⟩ := (hI.own0 (enc := encC) (xs := P1) (size := 4) (i := 3) rfl).form
      subst hvp
      obtain ⟨Ae, ce, hve⟩ := (hI.own0 (enc := encE) (xs := E1) (size := 11) (i := 4) rfl).form
      subst hve
      have hM4 : M1.length ≤ 400 := by have := H400.out; have : cellsN (ms.take k) ≤ cellsN ms := cellsN_take ms k; omega
      have hP4 : P1.length ≤ 8 := by rw [← hP1, linkP_len, List.length_take]; omega
      have hE4 : E1.length ≤ 160 := by rw [← hE1]; exact linkEs_160 hm8 HE.out k
      clear hM1l
      have HP1 := Lib.hid hP1
      have HE1 := Lib.hid hE1
      have HM1 := Lib.hid hM1
      clear hP1 hE1 hM1
      (try have c0 := hI.cell (i := 0) rfl); (try have c1 := hI.cell (i := 1) rfl); (try have c2 := hI.cell (i := 2) rfl); (try have c3 := hI.cell (i := 3) rfl); (try have c4 := hI.cell (i := 4) rfl); (try have c5 := hI.cell (i := 5) rfl); (try have c6 := hI.cell (i := 6) rfl); (try have c7 := hI.cell (i := 7) rfl); (try have c8 := hI.cell (i := 8) rfl); (try have c9 := hI.cell (i := 9) rfl); (try have c10 := hI.cell (i := 10) rfl); (try have c11 := hI.cell (i := 11) rfl); skip
      go_wp2_with (first
        | ((refine listI rfl fun K hK => wpI_alloc 51 rfl hI Try.zeroValue51 (cs := #[.slice none 0 0, .slice none 0 0, .slice none 0 0, .slice none 0 0]) (by first | rfl | kernel_rfl) fun gx w' hI' hb => hK _ _ ?_; clear hK K; (try replace HM1 := Lib.hid (HM1.out.grow hb)); (try replace HM2 := Lib.hid (HM2.out.grow hb)); (try replace HM3 := Lib.hid (HM3.out.grow hb)); (try replace HM4 := Lib.hid (HM4.out.grow hb)); (try clear hb); clear hI; have hI := hI'; clear hI'; (try simp only [List.cons_append, List.nil_append, List.set_cons_zero, List.set_cons_succ, List.setIfInBounds_toArray, Act.put, Act.eval, Array.getD_eq_getD_getElem?, List.getElem?_toArray, List.getElem?_cons_zero, List.getElem?_cons_succ, Option.getD_some] at hI); (try clear c0); (try clear c1); (try clear c2); (try clear c3); (try clear c4); (try clear c5); (try clear c6); (try clear c7); (try clear c8); (try clear c9); (try clear c10); (try clear c11); (try have c0 := hI.cell (i := 0) rfl); (try have c1 := hI.cell (i := 1) rfl); (try have c2 := hI.cell (i := 2) rfl); (try have c3 := hI.cell (i := 3) rfl); (try have c4 := hI.cell (i := 4) rfl); (try have c5 := hI.cell (i := 5) rfl); (try have c6 := hI.cell (i := 6) rfl); (try have c7 := hI.cell (i := 7) rfl); (try have c8 := hI.cell (i := 8) rfl); (try have c9 := hI.cell (i := 9) rfl); (try have c10 := hI.cell (i := 10) rfl); (try have c11 := hI.cell (i := 11) rfl); skip); obtain ⟨gm, rfl⟩ : ∃ y, y = gx := ⟨_, rfl⟩) | (refine listI rfl fun K hK => wpI_storeW _ _ _ rfl hI rfl 5 rfl rfl rfl (by kernel_rfl) (by simp [Value.oneCell']) fun w' hI' => hK _ _ ?_; clear hK K; (try replace HM1 := Lib.hid (HM1.out.grow hb)); (try replace HM2 := Lib.hid (HM2.out.grow hb)); (try replace HM3 := Lib.hid (HM3.out.grow hb)); (try replace HM4 := Lib.hid (HM4.out.grow hb)); (try clear hb); clear hI; have hI := hI'; clear hI'; (try simp only [List.cons_append, List.nil_append, List.set_cons_zero, List.set_cons_succ, List.setIfInBounds_toArray, Act.put, Act.eval, Array.getD_eq_getD_getElem?, List.getElem?_toArray, List.getElem?_cons_zero, List.getElem?_cons_succ, Option.getD_some] at hI); (try clear c0); (try clear c1); (try clear c2); (try clear c3); (try clear c4); (try clear c5); (try clear c6); (try clear c7); (try clear c8); (try clear c9); (try clear c10); (try clear c11); (try have c0 := hI.cell (i := 0) rfl); (try have c1 := hI.cell (i := 1) rfl); (try have c2 := hI.cell (i := 2) rfl); (try have c3 := hI.cell (i := 3) rfl); (try have c4 := hI.cell (i := 4) rfl); (try have c5 := hI.cell (i := 5) rfl); (try have c6 := hI.cell (i := 6) rfl); (try have c7 := hI.cell (i := 7) rfl); (try have c8 := hI.cell (i := 8) rfl); (try have c9 := hI.cell (i := 9) rfl); (try have c10 := hI.cell (i := 10) rfl); (try have c11 := hI.cell (i := 11) rfl); skip)
        | ((refine listI rfl fun K hK => wpI_alloc 55 rfl hI Try.zeroValue55 (cs := #[.int .i64 0, .int .i64 0, .int .i64 0, .int .i64 0]) (by first | rfl | kernel_rfl) fun gx w' hI' hb => hK _ _ ?_; clear hK K; (try replace HM1 := Lib.hid (HM1.out.grow hb)); (try replace HM2 := Lib.hid (HM2.out.grow hb)); (try replace HM3 := Lib.hid (HM3.out.grow hb)); (try replace HM4 := Lib.hid (HM4.out.grow hb)); (try clear hb); clear hI; have hI := hI'; clear hI'; (try simp only [List.cons_append, List.nil_append, List.set_cons_zero, List.set_cons_succ, List.setIfInBounds_toArray, Act.put, Act.eval, Array.getD_eq_getD_getElem?, List.getElem?_toArray, List.getElem?_cons_zero, List.getElem?_cons_succ, Option.getD_some] at hI); (try clear c0); (try clear c1); (try clear c2); (try clear c3); (try clear c4); (try clear c5); (try clear c6); (try clear c7); (try clear c8); (try clear c9); (try clear c10); (try clear c11); (try have c0 := hI.cell (i := 0) rfl); (try have c1 := hI.cell (i := 1) rfl); (try have c2 := hI.cell (i := 2) rfl); (try have c3 := hI.cell (i := 3) rfl); (try have c4 := hI.cell (i := 4) rfl); (try have c5 := hI.cell (i := 5) rfl); (try have c6 := hI.cell (i := 6) rfl); (try have c7 := hI.cell (i := 7) rfl); (try have c8 := hI.cell (i := 8) rfl); (try have c9 := hI.cell (i := 9) rfl); (try have c10 := hI.cell (i := 10) rfl); (try have c11 := hI.cell (i := 11) rfl); skip); obtain ⟨gp, rfl⟩ : ∃ y, y = gx := ⟨_, rfl⟩) | (refine listI rfl fun K hK => wpI_storeW _ _ _ rfl hI rfl 6 rfl rfl rfl (by kernel_rfl) (by simp [Value.oneCell']) fun w' hI' => hK _ _ ?_; clear hK K; (try replace HM1 := Lib.hid (HM1.out.grow hb)); (try replace HM2 := Lib.hid (HM2.out.grow hb)); (try replace HM3 := Lib.hid (HM3.out.grow hb)); (try replace HM4 := Lib.hid (HM4.out.grow hb)); (try clear hb); clear hI; have hI := hI'; clear hI'; (try simp only [List.cons_append, List.nil_append, List.set_cons_zero, List.set_cons_succ, List.setIfInBounds_toArray, Act.put, Act.eval, Array.getD_eq_getD_getElem?, List.getElem?_toArray, List.getElem?_cons_zero, List.getElem?_cons_succ, Option.getD_some] at hI); (try clear c0); (try clear c1); (try clear c2); (try clear c3); (try clear c4); (try clear c5); (try clear c6); (try clear c7); (try clear c8); (try clear c9); (try clear c10); (try clear c11); (try have c0 := hI.cell (i := 0) rfl); (try have c1 := hI.cell (i := 1) rfl); (try have c2 := hI.cell (i := 2) rfl); (try have c3 := hI.cell (i := 3) rfl); (try have c4 := hI.cell (i := 4) rfl); (try have c5 := hI.cell (i := 5) rfl); (try have c6 := hI.cell (i := 6) rfl); (try have c7 := hI.cell (i := 7) rfl); (try have c8 := hI.cell (i := 8) rfl); (try have c9 := hI.cell (i := 9) rfl); (try have c10 := hI.cell (i := 10) rfl); (try have c11 := hI.cell (i := 11) rfl); skip)
        | (refine listI rfl fun K hK => wpI_slice2 _ 29 _ _ rfl hI Try.underlying82 rfl rfl rfl rfl (z := .slice none 0 0) (by kernel_rfl) rfl fun gx w' hI' hb => hK _ _ ?_; clear hK K; (try replace HM1 := Lib.hid (HM1.out.grow hb)); (try replace HM2 := Lib.hid (HM2.out.grow hb)); (try replace HM3 := Lib.hid (HM3.out.grow hb)); (try replace HM4 := Lib.hid (HM4.out.grow hb)); (try clear hb); clear hI; have hI := hI'; clear hI'; (try simp only [List.cons_append, List.nil_append, List.set_cons_zero, List.set_cons_succ, List.setIfInBounds_toArray, Act.put, Act.eval, Array.getD_eq_getD_getElem?, List.getElem?_toArray, List.getElem?_cons_zero, List.getElem?_cons_succ, Option.getD_some] at hI); (try clear c0); (try clear c1); (try clear c2); (try clear c3); (try clear c4); (try clear c5); (try clear c6); (try clear c7); (try clear c8); (try clear c9); (try clear c10); (try clear c11); (try have c0 := hI.cell (i := 0) rfl); (try have c1 := hI.cell (i := 1) rfl); (try have c2 := hI.cell (i := 2) rfl); (try have c3 := hI.cell (i := 3) rfl); (try have c4 := hI.cell (i := 4) rfl); (try have c5 := hI.cell (i := 5) rfl); (try have c6 := hI.cell (i := 6) rfl); (try have c7 := hI.cell (i := 7) rfl); (try have c8 := hI.cell (i := 8) rfl); (try have c9 := hI.cell (i := 9) rfl); (try have c10 := hI.cell (i := 10) rfl); (try have c11 := hI.cell (i := 11) rfl); skip)
        | (refine listI rfl fun K hK => wpI_slice1 _ 55 _ rfl hI Try.underlying40 rfl (size := 4) (by kernel_rfl) rfl fun gx w' hI' hb => hK _ _ ?_; clear hK K; (try replace HM1 := Lib.hid (HM1.out.grow hb)); (try replace HM2 := Lib.hid (HM2.out.grow hb)); (try replace HM3 := Lib.hid (HM3.out.grow hb)); (try replace HM4 := Lib.hid (HM4.out.grow hb)); (try clear hb); clear hI; have hI := hI'; clear hI'; (try simp only [List.cons_append, List.nil_append, List.set_cons_zero, List.set_cons_succ, List.setIfInBounds_toArray, Act.put, Act.eval, Array.getD_eq_getD_getElem?, List.getElem?_toArray, List.getElem?_cons_zero, List.getElem?_cons_succ, Option.getD_some] at hI); (try clear c0); (try clear c1); (try clear c2); (try clear c3); (try clear c4); (try clear c5); (try clear c6); (try clear c7); (try clear c8); (try clear c9); (try clear c10); (try clear c11); (try have c0 := hI.cell (i := 0) rfl); (try have c1 := hI.cell (i := 1) rfl); (try have c2 := hI.cell (i := 2) rfl); (try have c3 := hI.cell (i := 3) rfl); (try have c4 := hI.cell (i := 4) rfl); (try have c5 := hI.cell (i := 5) rfl); (try have c6 := hI.cell (i := 6) rfl); (try have c7 := hI.cell (i := 7) rfl); (try have c8 := hI.cell (i := 8) rfl); (try have c9 := hI.cell (i := 9) rfl); (try have c10 := hI.cell (i := 10) rfl); (try have c11 := hI.cell (i := 11) rfl); skip)
        | (refine listI rfl fun K hK => wpI_app _ _ rfl el_C hI 3 rfl rfl (ys := [⟨_, _, _, _⟩]) rfl (hI.lies1 (i := 7) rfl _ (fun j hj => by rw [List.getElem?_toArray]; rfl)) rfl (by unfold maxLen; simp only [List.length_cons, List.length_nil]; omega) (by simp only [List.length_cons, List.length_nil]; omega) fun v' w' hI' => hK _ _ ?_; clear hK K; (try replace HM1 := Lib.hid (HM1.out.grow hb)); (try replace HM2 := Lib.hid (HM2.out.grow hb)); (try replace HM3 := Lib.hid (HM3.out.grow hb)); (try replace HM4 := Lib.hid (HM4.out.grow hb)); (try clear hb); clear hI; have hI := hI'; clear hI'; (try simp only [List.cons_append, List.nil_append, List.set_cons_zero, List.set_cons_succ, List.setIfInBounds_toArray, Act.put, Act.eval, Array.getD_eq_getD_getElem?, List.getElem?_toArray, List.getElem?_cons_zero, List.getElem?_cons_succ, Option.getD_some] at hI); (try clear c0); (try clear c1); (try clear c2); (try clear c3); (try clear c4); (try clear c5); (try clear c6); (try clear c7); (try clear c8); (try clear c9); (try clear c10); (try clear c11); (try have c0 := hI.cell (i := 0) rfl); (try have c1 := hI.cell (i := 1) rfl); (try have c2 := hI.cell (i := 2) rfl); (try have c3 := hI.cell (i := 3) rfl); (try have c4 := hI.cell (i := 4) rfl); (try have c5 := hI.cell (i := 5) rfl); (try have c6 := hI.cell (i := 6) rfl); (try have c7 := hI.cell (i := 7) rfl); (try have c8 := hI.cell (i := 8) rfl); (try have c9 := hI.cell (i := 9) rfl); (try have c10 := hI.cell (i := 10) rfl); (try have c11 := hI.cell (i := 11) rfl); skip)
        | (refine listI rfl fun K hK => wpI_store1 _ _ _ rfl hI rfl 1 rfl rfl (hI.one (i := 3) rfl) (by simp) (by kernel_rfl) fun w' hI' => hK _ _ ?_; clear hK K; (try replace HM1 := Lib.hid (HM1.out.grow hb)); (try replace HM2 := Lib.hid (HM2.out.grow hb)); (try replace HM3 := Lib.hid (HM3.out.grow hb)); (try replace HM4 := Lib.hid (HM4.out.grow hb)); (try clear hb); clear hI; have hI := hI'; clear hI'; (try simp only [List.cons_append, List.nil_append, List.set_cons_zero, List.set_cons_succ, List.setIfInBounds_toArray, Act.put, Act.eval, Array.getD_eq_getD_getElem?, List.getElem?_toArray, List.getElem?_cons_zero, List.getElem?_cons_succ, Option.getD_some] at hI); (try clear c0); (try clear c1); (try clear c2); (try clear c3); (try clear c4); (try clear c5); (try clear c6); (try clear c7); (try clear c8); (try clear c9); (try clear c10); (try clear c11); (try have c0 := hI.cell (i := 0) rfl); (try have c1 := hI.cell (i := 1) rfl); (try have c2 := hI.cell (i := 2) rfl); (try have c3 := hI.cell (i := 3) rfl); (try have c4 := hI.cell (i := 4) rfl); (try have c5 := hI.cell (i := 5) rfl); (try have c6 := hI.cell (i := 6) rfl); (try have c7 := hI.cell (i := 7) rfl); (try have c8 := hI.cell (i := 8) rfl); (try have c9 := hI.cell (i := 9) rfl); (try have c10 := hI.cell (i := 10) rfl); (try have c11 := hI.cell (i := 11) rfl); skip) | fail)
      obtain ⟨P2, hP2⟩ : ∃ P2, P2 = P1 ++ [(⟨M1.length, m.code.length, m.data.length, k + 1⟩ : Place)] := ⟨_, rfl⟩
      have HP2 := Lib.hid (show linkP (ms.take (k + 1)) = P2 by rw [hP2, linkP_next HMx.out, HP1.out, HL1.out])
      rw [← hP2] at hI
      replace hI := hI.pickF [0, 1, 2, 3, 4, 5, 6, 8] (by decide)
      simp only [pkf] at hI
      obtain ⟨gl, rfl⟩ : ∃ y, y = gx := ⟨_, rfl⟩
      clear c0 c1 c5 c6 c7 c8 q0 q1 q2 q3 hb'
      obtain ⟨sl, hsl⟩ : ∃ sl : Array Value, ([.slice A m.code.length a, .slice D m.data.length d] : List Value).toArray = sl := ⟨_, rfl⟩
      rw [hsl] at hI
      have S0 := Lib.hid (show sl[0]? = some (.slice A m.code.length a) by rw [← hsl]; rfl)
      have S1 := Lib.hid (show sl[1]? = some (.slice D m.data.length d) by rw [← hsl]; rfl)
      have hto : M1.length + (m.code.length + m.data.length) ≤ 400 := by have h := cellsN_to HMx.out; have := H400.out; rw [HL1.out]; unfold sizeM at h; omega
      clear hsl hP2
      obtain ⟨m8, hm8'⟩ : ∃ m8 : Array Value, #[.slice A m.code.length a, .slice D m.data.length d, .slice E m.exports.length e, .slice I m.imports.length i] = m8 := ⟨_, rfl⟩
      rw [hm8'] at hI
      have HM8 := Lib.hid hm8'
      clear hm8'
      obtain ⟨vp, hvp⟩ : ∃ vp : Value, v' = vp := ⟨_, rfl⟩
      subst hvp
      go_loopw [60] (fun v wr => ∃ (q : Nat) (vm : Value) (M2 : List Val), v = .int .i64 q ∧ q ≤ 2 ∧ M2 = M1 ++ (partsOf m.code m.data q).map numV ∧ Inv w [.box g0 43 #[.slice none 0 0, .slice none 0 0, .slice none 0 0], .box gi 43 #[vm, v', .slice Ae E1.length ce],
        .row 25 7 vm M2.length (M2.flatMap encV), .row 55 4 v' P2.length (P2.flatMap encC), .row 58 11 (.slice Ae E1.length ce) E1.length (E1.flatMap encE), .box gm 51 m8,
        .box gp 55 #[.int .i64 M1.length, .int .i64 m.code.length, .int .i64 m.data.length, .int .i64 (k + 1)], .box gl 29 sl] wr) (fun v _ => (2 - intOf v).toNat)
      case atStart => exact ⟨0, _, M1, rfl, by omega, by simp [partsOf], hI⟩
      case round =>
        clear hI
        obtain ⟨q, vm, M2, rfl, hq, hM2, hI⟩ := hrel
        have HM2 := Lib.hid hM2
        clear hM2
        rcases Nat.lt_or_ge q 2 with hq2 | hq2
        · obtain ⟨Aq, cq, lst, hs, hL, hpa, hpl⟩ := twoL S0.out S1.out HCo.out HDa.out hq2
          have HLs := Lib.hid hL
          have HPa := Lib.hid hpa
          have hM2l : M2.length + lst.length ≤ 400 := by rw [HM2.out, List.length_append, List.length_map]; omega
          clear hL hpa hpl
          have hdq : decide ((q : Int) < 2) = true := by simp; omega
          (try have c0 := hI.cell (i := 0) rfl); (try have c1 := hI.cell (i := 1) rfl); (try have c2 := hI.cell (i := 2) rfl); (try have c3 := hI.cell (i := 3) rfl); (try have c4 := hI.cell (i := 4) rfl); (try have c5 := hI.cell (i := 5) rfl); (try have c6 := hI.cell (i := 6) rfl); (try have c7 := hI.cell (i := 7) rfl); (try have c8 := hI.cell (i := 8) rfl); (try have c9 := hI.cell (i := 9) rfl); (try have c10 := hI.cell (i := 10) rfl); (try have c11 := hI.cell (i := 11) rfl); skip
          go_wp2_with fail
          go_loopw [66] (fun v wr => ∃ (j : Nat) (vm : Value) (M3 : List Val), v = .int .i64 j ∧ j ≤ lst.length ∧ M3 = M2 ++ (lst.take j).map numV ∧ Inv w [.box g0 43 #[.slice none 0 0, .slice none 0 0, .slice none 0 0], .box gi 43 #[vm, v', .slice Ae E1.length ce],
            .row 25 7 vm M3.length (M3.flatMap encV), .row 55 4 v' P2.length (P2.flatMap encC), .row 58 11 (.slice Ae E1.length ce) E1.length (E1.flatMap encE), .box gm 51 m8,
            .box gp 55 #[.int .i64 M1.length, .int .i64 m.code.length, .int .i64 m.data.length, .int .i64 (k + 1)], .box gl 29 sl] wr) (fun v _ => (lst.length - intOf v).toNat)
          case atStart => exact ⟨0, vm, M2, rfl, by omega, by simp, hI⟩
          case round =>
            clear hI c0 c1 c5 c6 c7 hs
            obtain ⟨j, vm, M3, rfl, hj, hM3, hI⟩ := hrel
            have HM3 := Lib.hid hM3
            clear hM3
            rcases Nat.lt_or_ge j lst.length with hjl | hjg
            · obtain ⟨bq, oq, n, hAq, -, hn, q0⟩ := (hI.lies HLs.out).cellsI hjl
              subst hAq
              have HN := Lib.hid hn
              have hM3l : M3.length < 400 := by rw [HM3.out, List.length_append, List.length_map, List.length_take]; omega
              clear hn
              (try have c0 := hI.cell (i := 0) rfl); (try have c1 := hI.cell (i := 1) rfl); (try have c2 := hI.cell (i := 2) rfl); (try have c3 := hI.cell (i := 3) rfl); (try have c4 := hI.cell (i := 4) rfl); (try have c5 := hI.cell (i := 5) rfl); (try have c6 := hI.cell (i := 6) rfl); (try have c7 := hI.cell (i := 7) rfl); (try have c8 := hI.cell (i := 8) rfl); (try have c9 := hI.cell (i := 9) rfl); (try have c10 := hI.cell (i := 10) rfl); (try have c11 := hI.cell (i := 11) rfl); skip
              go_wp2_with (first
                | (refine listI rfl fun K hK => wpI_slice1 _ 25 _ rfl hI Try.underlying27 rfl (size := 7) (by kernel_rfl) rfl fun gx w' hI' hb => hK _ _ ?_; clear hK K; (try replace HM1 := Lib.hid (HM1.out.grow hb)); (try replace HM2 := Lib.hid (HM2.out.grow hb)); (try replace HM3 := Lib.hid (HM3.out.grow hb)); (try replace HM4 := Lib.hid (HM4.out.grow hb)); (try clear hb); clear hI; have hI := hI'; clear hI'; (try simp only [List.cons_append, List.nil_append, List.set_cons_zero, List.set_cons_succ, List.setIfInBounds_toArray, Act.put, Act.eval, Array.getD_eq_getD_getElem?, List.getElem?_toArray, List.getElem?_cons_zero, List.getElem?_cons_succ, Option.getD_some] at hI); (try clear c0); (try clear c1); (try clear c2); (try clear c3); (try clear c4); (try clear c5); (try clear c6); (try clear c7); (try clear c8); (try clear c9); (try clear c10); (try clear c11); (try have c0 := hI.cell (i := 0) rfl); (try have c1 := hI.cell (i := 1) rfl); (try have c2 := hI.cell (i := 2) rfl); (try have c3 := hI.cell (i := 3) rfl); (try have c4 := hI.cell (i := 4) rfl); (try have c5 := hI.cell (i := 5) rfl); (try have c6 := hI.cell (i := 6) rfl); (try have c7 := hI.cell (i := 7) rfl); (try have c8 := hI.cell (i := 8) rfl); (try have c9 := hI.cell (i := 9) rfl); (try have c10 := hI.cell (i := 10) rfl); (try have c11 := hI.cell (i := 11) rfl); skip)
                | (refine listI rfl fun K hK => wpI_app _ _ rfl el_V hI 2 rfl rfl (ys := [numV n]) rfl (hI.lies1 (i := 8) rfl _ (fun j hj => by rw [List.getElem?_toArray]; rfl)) rfl (by unfold maxLen; simp only [List.length_cons, List.length_nil]; omega) (by simp only [List.length_cons, List.length_nil]; omega) fun v' w' hI' => hK _ _ ?_; clear hK K; (try replace HM1 := Lib.hid (HM1.out.grow hb)); (try replace HM2 := Lib.hid (HM2.out.grow hb)); (try replace HM3 := Lib.hid (HM3.out.grow hb)); (try replace HM4 := Lib.hid (HM4.out.grow hb)); (try clear hb); clear hI; have hI := hI'; clear hI'; (try simp only [List.cons_append, List.nil_append, List.set_cons_zero, List.set_cons_succ, List.setIfInBounds_toArray, Act.put, Act.eval, Array.getD_eq_getD_getElem?, List.getElem?_toArray, List.getElem?_cons_zero, List.getElem?_cons_succ, Option.getD_some] at hI); (try clear c0); (try clear c1); (try clear c2); (try clear c3); (try clear c4); (try clear c5); (try clear c6); (try clear c7); (try clear c8); (try clear c9); (try clear c10); (try clear c11); (try have c0 := hI.cell (i := 0) rfl); (try have c1 := hI.cell (i := 1) rfl); (try have c2 := hI.cell (i := 2) rfl); (try have c3 := hI.cell (i := 3) rfl); (try have c4 := hI.cell (i := 4) rfl); (try have c5 := hI.cell (i := 5) rfl); (try have c6 := hI.cell (i := 6) rfl); (try have c7 := hI.cell (i := 7) rfl); (try have c8 := hI.cell (i := 8) rfl); (try have c9 := hI.cell (i := 9) rfl); (try have c10 := hI.cell (i := 10) rfl); (try have c11 := hI.cell (i := 11) rfl); skip)
                | (refine listI rfl fun K hK => wpI_store1 _ _ _ rfl hI rfl 1 rfl rfl (hI.one (i := 2) rfl) (by simp) (by kernel_rfl) fun w' hI' => hK _ _ ?_; clear hK K; (try replace HM1 := Lib.hid (HM1.out.grow hb)); (try replace HM2 := Lib.hid (HM2.out.grow hb)); (try replace HM3 := Lib.hid (HM3.out.grow hb)); (try replace HM4 := Lib.hid (HM4.out.grow hb)); (try clear hb); clear hI; have hI := hI'; clear hI'; (try simp only [List.cons_append, List.nil_append, List.set_cons_zero, List.set_cons_succ, List.setIfInBounds_toArray, Act.put, Act.eval, Array.getD_eq_getD_getElem?, List.getElem?_toArray, List.getElem?_cons_zero, List.getElem?_cons_succ, Option.getD_some] at hI); (try clear c0); (try clear c1); (try clear c2); (try clear c3); (try clear c4); (try clear c5); (try clear c6); (try clear c7); (try clear c8); (try clear c9); (try clear c10); (try clear c11); (try have c0 := hI.cell (i := 0) rfl); (try have c1 := hI.cell (i := 1) rfl); (try have c2 := hI.cell (i := 2) rfl); (try have c3 := hI.cell (i := 3) rfl); (try have c4 := hI.cell (i := 4) rfl); (try have c5 := hI.cell (i := 5) rfl); (try have c6 := hI.cell (i := 6) rfl); (try have c7 := hI.cell (i := 7) rfl); (try have c8 := hI.cell (i := 8) rfl); (try have c9 := hI.cell (i := 9) rfl); (try have c10 := hI.cell (i := 10) rfl); (try have c11 := hI.cell (i := 11) rfl); skip) | fail)
              replace hI := hI.first [_, _, _, _, _, _, _, _] [_] rfl
              go_roundw
              case rel => exact ⟨j + 1, _, M3 ++ [numV n], by go_num, by omega, by rw [HM3.out, List.take_add_one, HN.out]; simp, hI⟩
              case measure => simp [intOf]; omega
            · have H2 := Lib.hid (show M3 = M1 ++ (partsOf m.code m.data (q + 1)).map numV by rw [HM3.out, HM2.out, HPa.out, List.take_of_length_le hjg]; simp)
              go_wp2_with fail
              go_roundw
              case rel => exact ⟨q + 1, vm, M3, by go_num, by omega, H2.out, hI⟩
              case measure => simp [intOf]; omega
        · have H2 := Lib.hid (show M2 = mem0 (ms.take (k + 1)) by rw [HM2.out, partsOf_all _ _ hq2, mem0_next HMx.out, HM1.out])
          have HL2 := Lib.hid (show cellsN (ms.take k) = M1.length from HL1.out.symm)
          obtain ⟨M2', hM2'⟩ : ∃ M2' : List Val, M2 = M2' := ⟨_, rfl⟩
          subst hM2'
          have S2 := Lib.hid (show m8[2]? = some (.slice E m.exports.length e) by rw [← HM8.out]; rfl)
          have hel : m.exports.length ≤ 9223372036854775807 := by omega
          replace hI := hI.pickF [0, 1, 2, 3, 4, 6, 5] (by decide)
          simp only [pkf] at hI
          have s2 := S2.out
          (try have c0 := hI.cell (i := 0) rfl); (try have c1 := hI.cell (i := 1) rfl); (try have c2 := hI.cell (i := 2) rfl); (try have c3 := hI.cell (i := 3) rfl); (try have c4 := hI.cell (i := 4) rfl); (try have c5 := hI.cell (i := 5) rfl); (try have c6 := hI.cell (i := 6) rfl); (try have c7 := hI.cell (i := 7) rfl); (try have c8 := hI.cell (i := 8) rfl); (try have c9 := hI.cell (i := 9) rfl); (try have c10 := hI.cell (i := 10) rfl); (try have c11 := hI.cell (i := 11) rfl); skip
          go_wp2_with fail
          go_loopw [82] (fun v wr => ∃ (j : Nat) (ve : Value) (E3 : List Entry), v = .int .i64 j ∧ j ≤ m.exports.length ∧ E3 = E1 ++ (m.exports.take j).map (entryOf M1.length k m) ∧ Inv w [.box g0 43 #[.slice none 0 0, .slice none 0 0, .slice none 0 0], .box gi 43 #[vm, v', ve],
            .row 25 7 vm M2.length (M2.flatMap encV), .row 55 4 v' P2.length (P2.flatMap encC), .row 58 11 ve E3.length (E3.flatMap encE),
            .box gp 55 #[.int .i64 M1.length, .int .i64 m.code.length, .int .i64 m.data.length, .int .i64 (k + 1)]] wr) (fun v _ => (m.exports.length - intOf v).toNat)
          case atStart => exact ⟨0, _, E1, rfl, by omega, by simp, hI.first [_, _, _, _, _, _] [_] rfl⟩
          case round =>
            clear hI c0 c1 c5 c6
            obtain ⟨j, ve, E3, rfl, hj, hE3, hI⟩ := hrel
            have HE3 := Lib.hid hE3
            clear hE3
            rcases Nat.lt_or_ge j m.exports.length with hjl | hjg
            · obtain ⟨be, oe, y, hEE, hbe, hy, q0, q1⟩ := (hI.lies HEx.out).cellsL hjl
              subst hEE
              have HY := Lib.hid hy
              have hE3l : E3.length ≤ 180 := by rw [HE3.out, List.length_append, List.length_map, List.length_take]; omega
              have hyp := modE_exp HM0.out (List.mem_of_getElem? hy)
              clear hy
              (try have c0 := hI.cell (i := 0) rfl); (try have c1 := hI.cell (i := 1) rfl); (try have c2 := hI.cell (i := 2) rfl); (try have c3 := hI.cell (i := 3) rfl); (try have c4 := hI.cell (i := 4) rfl); (try have c5 := hI.cell (i := 5) rfl); (try have c6 := hI.cell (i := 6) rfl); (try have c7 := hI.cell (i := 7) rfl); (try have c8 := hI.cell (i := 8) rfl); (try have c9 := hI.cell (i := 9) rfl); (try have c10 := hI.cell (i := 10) rfl); (try have c11 := hI.cell (i := 11) rfl); skip
              go_wp2_with (first
                | (refine listI_var rfl rfl 47 rfl _ _ rfl hI Try.zeroValue47 (fun _ => rfl) (fun _ => rfl) (by first | rfl | (simp only [hsz1]; first | done | rfl | kernel_rfl) | (simp only [hsz2]; first | done | rfl | kernel_rfl) | (simp only [hsz]; first | done | rfl | kernel_rfl) | kernel_rfl) (by first | exact info_mach (by assumption) | (simp only [hsz1]; kernel_rfl) | (simp only [hsz2]; kernel_rfl) | (simp only [hsz]; kernel_rfl) | kernel_rfl) (by first | (simp [Value.oneCell']; done) | exact HO1.out | exact HO2.out) fun gx w' hI' hb => ?_; (try replace HM1 := Lib.hid (HM1.out.grow hb)); (try replace HM2 := Lib.hid (HM2.out.grow hb)); (try replace HM3 := Lib.hid (HM3.out.grow hb)); (try replace HM4 := Lib.hid (HM4.out.grow hb)); (try clear hb); clear hI; have hI := hI'; clear hI'; (try simp only [List.cons_append, List.nil_append, List.set_cons_zero, List.set_cons_succ, List.setIfInBounds_toArray, Act.put, Act.eval, Array.getD_eq_getD_getElem?, List.getElem?_toArray, List.getElem?_cons_zero, List.getElem?_cons_succ, Option.getD_some] at hI); (try clear c0); (try clear c1); (try clear c2); (try clear c3); (try clear c4); (try clear c5); (try clear c6); (try clear c7); (try clear c8); (try clear c9); (try clear c10); (try clear c11); (try have c0 := hI.cell (i := 0) rfl); (try have c1 := hI.cell (i := 1) rfl); (try have c2 := hI.cell (i := 2) rfl); (try have c3 := hI.cell (i := 3) rfl); (try have c4 := hI.cell (i := 4) rfl); (try have c5 := hI.cell (i := 5) rfl); (try have c6 := hI.cell (i := 6) rfl); (try have c7 := hI.cell (i := 7) rfl); (try have c8 := hI.cell (i := 8) rfl); (try have c9 := hI.cell (i := 9) rfl); (try have c10 := hI.cell (i := 10) rfl); (try have c11 := hI.cell (i := 11) rfl); skip)
                | (refine listI rfl fun K hK => wpI_slice1 _ 58 _ rfl hI Try.underlying41 rfl (size := 11) (by kernel_rfl) rfl fun gx w' hI' hb => hK _ _ ?_; clear hK K; (try replace HM1 := Lib.hid (HM1.out.grow hb)); (try replace HM2 := Lib.hid (HM2.out.grow hb)); (try replace HM3 := Lib.hid (HM3.out.grow hb)); (try replace HM4 := Lib.hid (HM4.out.grow hb)); (try clear hb); clear hI; have hI := hI'; clear hI'; (try simp only [List.cons_append, List.nil_append, List.set_cons_zero, List.set_cons_succ, List.setIfInBounds_toArray, Act.put, Act.eval, Array.getD_eq_getD_getElem?, List.getElem?_toArray, List.getElem?_cons_zero, List.getElem?_cons_succ, Option.getD_some] at hI); (try clear c0); (try clear c1); (try clear c2); (try clear c3); (try clear c4); (try clear c5); (try clear c6); (try clear c7); (try clear c8); (try clear c9); (try clear c10); (try clear c11); (try have c0 := hI.cell (i := 0) rfl); (try have c1 := hI.cell (i := 1) rfl); (try have c2 := hI.cell (i := 2) rfl); (try have c3 := hI.cell (i := 3) rfl); (try have c4 := hI.cell (i := 4) rfl); (try have c5 := hI.cell (i := 5) rfl); (try have c6 := hI.cell (i := 6) rfl); (try have c7 := hI.cell (i := 7) rfl); (try have c8 := hI.cell (i := 8) rfl); (try have c9 := hI.cell (i := 9) rfl); (try have c10 := hI.cell (i := 10) rfl); (try have c11 := hI.cell (i := 11) rfl); skip)
                | (refine listI rfl fun K hK => wpI_app _ _ rfl el_E hI 4 rfl rfl (ys := [entryOf M1.length k m y]) rfl (hI.lies1 (i := 7) rfl _ (fun j hj => by rw [List.getElem?_toArray]; rfl)) rfl (by unfold maxLen; simp only [List.length_cons, List.length_nil]; omega) (by simp only [List.length_cons, List.length_nil]; omega) fun v' w' hI' => hK _ _ ?_; clear hK K; (try replace HM1 := Lib.hid (HM1.out.grow hb)); (try replace HM2 := Lib.hid (HM2.out.grow hb)); (try replace HM3 := Lib.hid (HM3.out.grow hb)); (try replace HM4 := Lib.hid (HM4.out.grow hb)); (try clear hb); clear hI; have hI := hI'; clear hI'; (try simp only [List.cons_append, List.nil_append, List.set_cons_zero, List.set_cons_succ, List.setIfInBounds_toArray, Act.put, Act.eval, Array.getD_eq_getD_getElem?, List.getElem?_toArray, List.getElem?_cons_zero, List.getElem?_cons_succ, Option.getD_some] at hI); (try clear c0); (try clear c1); (try clear c2); (try clear c3); (try clear c4); (try clear c5); (try clear c6); (try clear c7); (try clear c8); (try clear c9); (try clear c10); (try clear c11); (try have c0 := hI.cell (i := 0) rfl); (try have c1 := hI.cell (i := 1) rfl); (try have c2 := hI.cell (i := 2) rfl); (try have c3 := hI.cell (i := 3) rfl); (try have c4 := hI.cell (i := 4) rfl); (try have c5 := hI.cell (i := 5) rfl); (try have c6 := hI.cell (i := 6) rfl); (try have c7 := hI.cell (i := 7) rfl); (try have c8 := hI.cell (i := 8) rfl); (try have c9 := hI.cell (i := 9) rfl); (try have c10 := hI.cell (i := 10) rfl); (try have c11 := hI.cell (i := 11) rfl); skip)
                | (refine listI rfl fun K hK => wpI_store1 _ _ _ rfl hI rfl 1 rfl rfl (hI.one (i := 4) rfl) (by simp) (by kernel_rfl) fun w' hI' => hK _ _ ?_; clear hK K; (try replace HM1 := Lib.hid (HM1.out.grow hb)); (try replace HM2 := Lib.hid (HM2.out.grow hb)); (try replace HM3 := Lib.hid (HM3.out.grow hb)); (try replace HM4 := Lib.hid (HM4.out.grow hb)); (try clear hb); clear hI; have hI := hI'; clear hI'; (try simp only [List.cons_append, List.nil_append, List.set_cons_zero, List.set_cons_succ, List.setIfInBounds_toArray, Act.put, Act.eval, Array.getD_eq_getD_getElem?, List.getElem?_toArray, List.getElem?_cons_zero, List.getElem?_cons_succ, Option.getD_some] at hI); (try clear c0); (try clear c1); (try clear c2); (try clear c3); (try clear c4); (try clear c5); (try clear c6); (try clear c7); (try clear c8); (try clear c9); (try clear c10); (try clear c11); (try have c0 := hI.cell (i := 0) rfl); (try have c1 := hI.cell (i := 1) rfl); (try have c2 := hI.cell (i := 2) rfl); (try have c3 := hI.cell (i := 3) rfl); (try have c4 := hI.cell (i := 4) rfl); (try have c5 := hI.cell (i := 5) rfl); (try have c6 := hI.cell (i := 6) rfl); (try have c7 := hI.cell (i := 7) rfl); (try have c8 := hI.cell (i := 8) rfl); (try have c9 := hI.cell (i := 9) rfl); (try have c10 := hI.cell (i := 10) rfl); (try have c11 := hI.cell (i := 11) rfl); skip) | fail)
              replace hI := hI.first [_, _, _, _, _, _] [_, _] rfl
              go_roundw
              case rel => exact ⟨j + 1, _, E3 ++ [entryOf M1.length k m y], by go_num, by omega, by rw [HE3.out, List.take_add_one, HY.out]; simp, hI⟩
              case measure => simp [intOf]; omega
            · have H3 := Lib.hid (show E3 = linkEs (ms.take (k + 1)) by rw [HE3.out, linkEs_next HMx.out, HE1.out, HL2.out, List.take_of_length_le hjg]; rfl)
              go_wp2_with fail
              go_roundw
              case rel => exact ⟨k + 1, vm, v', ve, by go_num, by omega, by rw [← H2.out, HP2.out, ← H3.out]; exact hI.first [_, _, _, _, _] [_] rfl⟩
              case measure => simp [intOf]; omega
    · have hk' : k = ms.length := by omega
      rw [hk', List.take_length, ← memK_zero (linkEs ms)] at hI
      have HK0 := Lib.hid hk'
      obtain ⟨es, hes⟩ : ∃ es, linkEs ms = es := ⟨_, rfl⟩
      have hE4 : es.length ≤ 160 := by have := linkEs_160 hm8 HE.out ms.length; rw [List.take_length, hes] at this; exact this
      have HES := Lib.hid hes
      rw [hes] at hI
      obtain ⟨Ae, ce, hve⟩ := (hI.own0 (enc := encE) (xs := es) (size := 11) (i := 4) rfl).form
      subst hve
      obtain ⟨PP, hPP⟩ : ∃ PP, linkP ms = PP := ⟨_, rfl⟩
      have hPl : PP.length = xs.length := by rw [← hPP, linkP_len, hlen]
      have HPP := Lib.hid hPP
      rw [hPP] at hI
      obtain ⟨Ap, cp, hvp⟩ := (hI.own0 (enc := encC) (xs := PP) (size := 4) (i := 3) rfl).form
      subst hvp
      have HPL := Lib.hid hPl
      have hdk : decide (k < xs.length) = false := by simp; omega
      clear hk' hes hPP hPl
      (try have c0 := hI.cell (i := 0) rfl); (try have c1 := hI.cell (i := 1) rfl); (try have c2 := hI.cell (i := 2) rfl); (try have c3 := hI.cell (i := 3) rfl); (try have c4 := hI.cell (i := 4) rfl); (try have c5 := hI.cell (i := 5) rfl); (try have c6 := hI.cell (i := 6) rfl); (try have c7 := hI.cell (i := 7) rfl); (try have c8 := hI.cell (i := 8) rfl); (try have c9 := hI.cell (i := 9) rfl); (try have c10 := hI.cell (i := 10) rfl); (try have c11 := hI.cell (i := 11) rfl); skip
      go_wp2_with fail
      go_loopw [122] (fun v wr => ∃ (k : Nat) (vm : Value), v = .int .i64 k ∧ k ≤ xs.length ∧ Inv w [.box g0 43 #[.slice none 0 0, .slice none 0 0, .slice none 0 0], .box gi 43 #[vm, .slice Ap PP.length cp, .slice Ae es.length ce],
        .row 25 7 vm (memK es ms k).length ((memK es ms k).flatMap encV), .row 55 4 (.slice Ap PP.length cp) PP.length (PP.flatMap encC), .row 58 11 (.slice Ae es.length ce) es.length (es.flatMap encE)] wr) (fun v _ => (xs.length - intOf v).toNat)
      case atStart => exact ⟨0, _, rfl, by omega, hI⟩
      case round =>
        clear hI c0 c1 hge
        obtain ⟨k, vm, rfl, hk, hI⟩ := hrel
        rcases Nat.lt_or_ge k xs.length with hlt | hge
        · obtain ⟨b, o, x, rfl, hb, hx, hok, hwf, q0, q1, q2, q3⟩ := (HM.out.below hI.below).at_ hlt
          have hb' : b < wr.heap.size := Nat.lt_of_lt_of_le hb hI.size
          have hv := HM.out.ok k x hx
          have hmx := HX.out k x hx
          clear hx hok hwf
          obtain ⟨A, a, D, d, E, e, I, i, m⟩ := x
          have he := hv.imps
          dsimp only at q0 q1 q2 q3 hmx he
          have hm0 := HE.out m (List.mem_of_getElem? hmx)
          have hsz := modE_sizes (show (modE m != 0) = false by rw [hm0]; rfl)
          have HM0 := Lib.hid hm0
          have HIx := Lib.hid he
          have HMx := Lib.hid hmx
          rw [← memAt_nil hmx] at hI
          clear hv hmx he hm0
          (try have c0 := hI.cell (i := 0) rfl); (try have c1 := hI.cell (i := 1) rfl); (try have c2 := hI.cell (i := 2) rfl); (try have c3 := hI.cell (i := 3) rfl); (try have c4 := hI.cell (i := 4) rfl); (try have c5 := hI.cell (i := 5) rfl); (try have c6 := hI.cell (i := 6) rfl); (try have c7 := hI.cell (i := 7) rfl); (try have c8 := hI.cell (i := 8) rfl); (try have c9 := hI.cell (i := 9) rfl); (try have c10 := hI.cell (i := 10) rfl); (try have c11 := hI.cell (i := 11) rfl); skip
          go_wp2_with (first
            | ((refine listI rfl fun K hK => wpI_alloc 51 rfl hI Try.zeroValue51 (cs := #[.slice none 0 0, .slice none 0 0, .slice none 0 0, .slice none 0 0]) (by first | rfl | kernel_rfl) fun gx w' hI' hb => hK _ _ ?_; clear hK K; (try replace HM1 := Lib.hid (HM1.out.grow hb)); (try replace HM2 := Lib.hid (HM2.out.grow hb)); (try replace HM3 := Lib.hid (HM3.out.grow hb)); (try replace HM4 := Lib.hid (HM4.out.grow hb)); (try clear hb); clear hI; have hI := hI'; clear hI'; (try simp only [List.cons_append, List.nil_append, List.set_cons_zero, List.set_cons_succ, List.setIfInBounds_toArray, Act.put, Act.eval, Array.getD_eq_getD_getElem?, List.getElem?_toArray, List.getElem?_cons_zero, List.getElem?_cons_succ, Option.getD_some] at hI); (try clear c0); (try clear c1); (try clear c2); (try clear c3); (try clear c4); (try clear c5); (try clear c6); (try clear c7); (try clear c8); (try clear c9); (try clear c10); (try clear c11); (try have c0 := hI.cell (i := 0) rfl); (try have c1 := hI.cell (i := 1) rfl); (try have c2 := hI.cell (i := 2) rfl); (try have c3 := hI.cell (i := 3) rfl); (try have c4 := hI.cell (i := 4) rfl); (try have c5 := hI.cell (i := 5) rfl); (try have c6 := hI.cell (i := 6) rfl); (try have c7 := hI.cell (i := 7) rfl); (try have c8 := hI.cell (i := 8) rfl); (try have c9 := hI.cell (i := 9) rfl); (try have c10 := hI.cell (i := 10) rfl); (try have c11 := hI.cell (i := 11) rfl); skip); obtain ⟨gm, rfl⟩ : ∃ y, y = gx := ⟨_, rfl⟩) | (refine listI rfl fun K hK => wpI_storeW _ _ _ rfl hI rfl 5 rfl rfl rfl (by kernel_rfl) (by simp [Value.oneCell']) fun w' hI' => hK _ _ ?_; clear hK K; (try replace HM1 := Lib.hid (HM1.out.grow hb)); (try replace HM2 := Lib.hid (HM2.out.grow hb)); (try replace HM3 := Lib.hid (HM3.out.grow hb)); (try replace HM4 := Lib.hid (HM4.out.grow hb)); (try clear hb); clear hI; have hI := hI'; clear hI'; (try simp only [List.cons_append, List.nil_append, List.set_cons_zero, List.set_cons_succ, List.setIfInBounds_toArray, Act.put, Act.eval, Array.getD_eq_getD_getElem?, List.getElem?_toArray, List.getElem?_cons_zero, List.getElem?_cons_succ, Option.getD_some] at hI); (try clear c0); (try clear c1); (try clear c2); (try clear c3); (try clear c4); (try clear c5); (try clear c6); (try clear c7); (try clear c8); (try clear c9); (try clear c10); (try clear c11); (try have c0 := hI.cell (i := 0) rfl); (try have c1 := hI.cell (i := 1) rfl); (try have c2 := hI.cell (i := 2) rfl); (try have c3 := hI.cell (i := 3) rfl); (try have c4 := hI.cell (i := 4) rfl); (try have c5 := hI.cell (i := 5) rfl); (try have c6 := hI.cell (i := 6) rfl); (try have c7 := hI.cell (i := 7) rfl); (try have c8 := hI.cell (i := 8) rfl); (try have c9 := hI.cell (i := 9) rfl); (try have c10 := hI.cell (i := 10) rfl); (try have c11 := hI.cell (i := 11) rfl); skip) | fail)
          replace hI := hI.first [_, _, _, _, _] [_] rfl
          go_loopw [130] (fun v wr => ∃ (j : Nat) (vm : Value), v = .int .i64 j ∧ j ≤ m.imports.length ∧ Inv w [.box g0 43 #[.slice none 0 0, .slice none 0 0, .slice none 0 0], .box gi 43 #[vm, .slice Ap PP.length cp, .slice Ae es.length ce],
            .row 25 7 vm (memAt es ms k m (m.imports.take j)).length ((memAt es ms k m (m.imports.take j)).flatMap encV), .row 55 4 (.slice Ap PP.length cp) PP.length (PP.flatMap encC), .row 58 11 (.slice Ae es.length ce) es.length (es.flatMap encE)] wr) (fun v _ => (m.imports.length - intOf v).toNat)
          case atStart => exact ⟨0, _, rfl, by omega, hI⟩
          case round =>
            clear hI c0 c1 c5 q0 q1 q2 q3 hb'
            obtain ⟨j, vm, rfl, hj, hI⟩ := hrel
            rcases Nat.lt_or_ge j m.imports.length with hjl | hjg
            · obtain ⟨be, oe, y, hEE, hbe, hy, q0, q1⟩ := (hI.lies HIx.out).cellsM hjl
              subst hEE
              obtain ⟨s, hs, hsd⟩ := modE_imp HM0.out (List.mem_of_getElem? hy)
              have HY := Lib.hid hy
              have HS := Lib.hid hs
              rw [hs] at q1
              obtain ⟨MM, hMM⟩ : ∃ MM, memAt es ms k m (m.imports.take j) = MM := ⟨_, rfl⟩
              have hMl : MM.length = cellsN ms := by
                rw [← hMM, memAt_len]
                have h := cellsN_split HMx.out
                omega
              have hto := cellsN_to HMx.out
              have h4 := H400.out
              have hML : cellsN (ms.take k) + m.code.length + s + 1 < MM.length := by unfold sizeM at hto; omega
              rw [hMM] at hI
              obtain ⟨gv, cv, hvm⟩ := hI.form0 (enc := encV) (xs := MM) (i := 2) rfl (by omega)
              subst hvm
              have HMM := Lib.hid hMM
              clear hy hs hMM hMl hto h4
              (try have c0 := hI.cell (i := 0) rfl); (try have c1 := hI.cell (i := 1) rfl); (try have c2 := hI.cell (i := 2) rfl); (try have c3 := hI.cell (i := 3) rfl); (try have c4 := hI.cell (i := 4) rfl); (try have c5 := hI.cell (i := 5) rfl); (try have c6 := hI.cell (i := 6) rfl); (try have c7 := hI.cell (i := 7) rfl); (try have c8 := hI.cell (i := 8) rfl); (try have c9 := hI.cell (i := 9) rfl); (try have c10 := hI.cell (i := 10) rfl); (try have c11 := hI.cell (i := 11) rfl); skip
              go_wp2_with (first
                | ((refine listI_var rfl rfl 84 rfl _ _ rfl hI Try.zeroValue84 (fun _ => rfl) (fun _ => rfl) (by first | rfl | (simp only [hsz1]; first | done | rfl | kernel_rfl) | (simp only [hsz2]; first | done | rfl | kernel_rfl) | (simp only [hsz]; first | done | rfl | kernel_rfl) | kernel_rfl) (by first | exact info_mach (by assumption) | (simp only [hsz1]; kernel_rfl) | (simp only [hsz2]; kernel_rfl) | (simp only [hsz]; kernel_rfl) | kernel_rfl) (by first | (simp [Value.oneCell']; done) | exact HO1.out | exact HO2.out) fun gx w' hI' hb => ?_; (try replace HM1 := Lib.hid (HM1.out.grow hb)); (try replace HM2 := Lib.hid (HM2.out.grow hb)); (try replace HM3 := Lib.hid (HM3.out.grow hb)); (try replace HM4 := Lib.hid (HM4.out.grow hb)); (try clear hb); clear hI; have hI := hI'; clear hI'; (try simp only [List.cons_append, List.nil_append, List.set_cons_zero, List.set_cons_succ, List.setIfInBounds_toArray, Act.put, Act.eval, Array.getD_eq_getD_getElem?, List.getElem?_toArray, List.getElem?_cons_zero, List.getElem?_cons_succ, Option.getD_some] at hI); (try clear c0); (try clear c1); (try clear c2); (try clear c3); (try clear c4); (try clear c5); (try clear c6); (try clear c7); (try clear c8); (try clear c9); (try clear c10); (try clear c11); (try have c0 := hI.cell (i := 0) rfl); (try have c1 := hI.cell (i := 1) rfl); (try have c2 := hI.cell (i := 2) rfl); (try have c3 := hI.cell (i := 3) rfl); (try have c4 := hI.cell (i := 4) rfl); (try have c5 := hI.cell (i := 5) rfl); (try have c6 := hI.cell (i := 6) rfl); (try have c7 := hI.cell (i := 7) rfl); (try have c8 := hI.cell (i := 8) rfl); (try have c9 := hI.cell (i := 9) rfl); (try have c10 := hI.cell (i := 10) rfl); (try have c11 := hI.cell (i := 11) rfl); skip); obtain ⟨gq, rfl⟩ : ∃ y, y = gx := ⟨_, rfl⟩) | ((refine listI rfl fun K hK => wpI_alloc 58 rfl hI Try.zeroValue58 (cs := #[.string ByteArray.empty, .int .i64 0, .int .i64 0, .int .i64 0, .int .i64 0, .int .i64 0, .int .i64 0, .int .i64 0, .int .i64 0, .int .i64 0, .int .i64 0]) (by first | rfl | kernel_rfl) fun gx w' hI' hb => hK _ _ ?_; clear hK K; (try replace HM1 := Lib.hid (HM1.out.grow hb)); (try replace HM2 := Lib.hid (HM2.out.grow hb)); (try replace HM3 := Lib.hid (HM3.out.grow hb)); (try replace HM4 := Lib.hid (HM4.out.grow hb)); (try clear hb); clear hI; have hI := hI'; clear hI'; (try simp only [List.cons_append, List.nil_append, List.set_cons_zero, List.set_cons_succ, List.setIfInBounds_toArray, Act.put, Act.eval, Array.getD_eq_getD_getElem?, List.getElem?_toArray, List.getElem?_cons_zero, List.getElem?_cons_succ, Option.getD_some] at hI); (try clear c0); (try clear c1); (try clear c2); (try clear c3); (try clear c4); (try clear c5); (try clear c6); (try clear c7); (try clear c8); (try clear c9); (try clear c10); (try clear c11); (try have c0 := hI.cell (i := 0) rfl); (try have c1 := hI.cell (i := 1) rfl); (try have c2 := hI.cell (i := 2) rfl); (try have c3 := hI.cell (i := 3) rfl); (try have c4 := hI.cell (i := 4) rfl); (try have c5 := hI.cell (i := 5) rfl); (try have c6 := hI.cell (i := 6) rfl); (try have c7 := hI.cell (i := 7) rfl); (try have c8 := hI.cell (i := 8) rfl); (try have c9 := hI.cell (i := 9) rfl); (try have c10 := hI.cell (i := 10) rfl); (try have c11 := hI.cell (i := 11) rfl); skip)) | (refine listI rfl fun K hK => wpI_storeW _ _ _ rfl hI rfl 6 rfl rfl rfl (by kernel_rfl) (by simp [Value.oneCell']) fun w' hI' => hK _ _ ?_; clear hK K; (try replace HM1 := Lib.hid (HM1.out.grow hb)); (try replace HM2 := Lib.hid (HM2.out.grow hb)); (try replace HM3 := Lib.hid (HM3.out.grow hb)); (try replace HM4 := Lib.hid (HM4.out.grow hb)); (try clear hb); clear hI; have hI := hI'; clear hI'; (try simp only [List.cons_append, List.nil_append, List.set_cons_zero, List.set_cons_succ, List.setIfInBounds_toArray, Act.put, Act.eval, Array.getD_eq_getD_getElem?, List.getElem?_toArray, List.getElem?_cons_zero, List.getElem?_cons_succ, Option.getD_some] at hI); (try clear c0); (try clear c1); (try clear c2); (try clear c3); (try clear c4); (try clear c5); (try clear c6); (try clear c7); (try clear c8); (try clear c9); (try clear c10); (try clear c11); (try have c0 := hI.cell (i := 0) rfl); (try have c1 := hI.cell (i := 1) rfl); (try have c2 := hI.cell (i := 2) rfl); (try have c3 := hI.cell (i := 3) rfl); (try have c4 := hI.cell (i := 4) rfl); (try have c5 := hI.cell (i := 5) rfl); (try have c6 := hI.cell (i := 6) rfl); (try have c7 := hI.cell (i := 7) rfl); (try have c8 := hI.cell (i := 8) rfl); (try have c9 := hI.cell (i := 9) rfl); (try have c10 := hI.cell (i := 10) rfl); (try have c11 := hI.cell (i := 11) rfl); skip)
                | (go_at_call 34; (with_reducible refine (c_link_Find _ _ _ _ es y.name _ (by unfold maxLen; omega) ((InvT.own0 (enc := encE) (xs := es) (size := 11) hI (i := 4) rfl).liesB (fun _ => rfl) rfl)).mono ?_); intro e w' hr; obtain ⟨rfl, hb⟩ := hr; have hI' := hI.on hb; (try replace HM1 := Lib.hid (HM1.out.grow hb)); (try replace HM2 := Lib.hid (HM2.out.grow hb)); (try replace HM3 := Lib.hid (HM3.out.grow hb)); (try replace HM4 := Lib.hid (HM4.out.grow hb)); (try clear hb); clear hI; have hI := hI'; clear hI'; (try simp only [List.cons_append, List.nil_append, List.set_cons_zero, List.set_cons_succ, List.setIfInBounds_toArray, Act.put, Act.eval, Array.getD_eq_getD_getElem?, List.getElem?_toArray, List.getElem?_cons_zero, List.getElem?_cons_succ, Option.getD_some] at hI); (try clear c0); (try clear c1); (try clear c2); (try clear c3); (try clear c4); (try clear c5); (try clear c6); (try clear c7); (try clear c8); (try clear c9); (try clear c10); (try clear c11); (try have c0 := hI.cell (i := 0) rfl); (try have c1 := hI.cell (i := 1) rfl); (try have c2 := hI.cell (i := 2) rfl); (try have c3 := hI.cell (i := 3) rfl); (try have c4 := hI.cell (i := 4) rfl); (try have c5 := hI.cell (i := 5) rfl); (try have c6 := hI.cell (i := 6) rfl); (try have c7 := hI.cell (i := 7) rfl); (try have c8 := hI.cell (i := 8) rfl); (try have c9 := hI.cell (i := 9) rfl); (try have c10 := hI.cell (i := 10) rfl); (try have c11 := hI.cell (i := 11) rfl); skip) | fail)
              obtain ⟨bp, op, p, hAp, hbp, hp, r0, r1, -, -⟩ := ((InvT.own0 (enc := encC) (xs := PP) (size := 4) hI (i := 3) rfl).liesB (fun _ => rfl) rfl).cellsC (k := k) (by rw [HPL.out]; omega)
              subst hAp
              obtain rfl : p = ⟨cellsN (ms.take k), m.code.length, m.data.length, k + 1⟩ := Option.some.inj (hp.symm.trans (by rw [← HPP.out]; exact linkP_at HMx.out))
              dsimp only at r0 r1
              have hgi := hI.lt (i := 1) rfl rfl
              have hgq := hI.lt (i := 5) rfl rfl
              have HPk := Lib.hid hp
              have hPk : (k : Int) < PP.length := by rw [HPL.out]; omega
              clear hp
              (refine wp_region_kept (w0 := w') (bs := []) (by kernel_rfl) (by kernel_rfl) (Kept.mk0 (by (repeat' (first | (with_reducible exact Below.refl _ _) | (with_reducible assumption) | (with_reducible refine Below.alloc ?_ ?_ _) | (with_reducible refine Below.drew ?_) | (with_reducible refine Below.setCell ?_ ?_ _) | (refine Below.trans ?_ (Below.mono (by with_reducible assumption) ?_)) | go_size)))) ?_; (repeat (first | go_big_quiet_skip | (go_big_quiet_want; first | (refine BigFrame.quiet_move _ rfl ?_; (simp only [Act.put, Act.eval, Array.getD_eq_getD_getElem?, List.getElem?_toArray, List.getElem?_cons_zero, List.getElem?_cons_succ, Option.getD_some, List.setIfInBounds_toArray, List.set_cons_zero, List.set_cons_succ]); go_big_quiet_on) | (refine BigFrame.quiet_assign _ rfl ?_; (simp only [Act.put, Act.eval, Array.getD_eq_getD_getElem?, List.getElem?_toArray, List.getElem?_cons_zero, List.getElem?_cons_succ, Option.getD_some, List.setIfInBounds_toArray, List.set_cons_zero, List.set_cons_succ]); go_big_quiet_on) | (apply quiet_call; (focus (intro W; go_simp; constructor <;> with_reducible rfl)); (focus (intro W hW; first | fail)); (simp only [Act.put, Act.eval, Array.getD_eq_getD_getElem?, List.getElem?_toArray, List.getElem?_cons_zero, List.getElem?_cons_succ, Option.getD_some, List.setIfInBounds_toArray, List.set_cons_zero, List.set_cons_succ]); go_big_quiet_on) | (apply quiet_run; (focus (intro W hW; obtain ⟨hB, hS, hC, hF⟩ := hW; clear hC hF; (try simp only [List.length_cons, List.length_nil] at hS); have d1 := fun o => (hB.cell (p := ⟨gi, o, none⟩) hgi).trans (c1 o); have d5 := fun o => (hB.cell (p := ⟨gq, o, none⟩) hgq).trans (c5 o); have s0 := (hB.cell (p := ⟨bp, op + k * 4, none⟩) hbp).trans r0; have s1 := (hB.cell (p := ⟨bp, op + k * 4 + 1, none⟩) hbp).trans r1; go_simp; first | done | with_reducible rfl)); (simp only [Act.put, Act.eval, Array.getD_eq_getD_getElem?, List.getElem?_toArray, List.getElem?_cons_zero, List.getElem?_cons_succ, Option.getD_some, List.setIfInBounds_toArray, List.set_cons_zero, List.set_cons_succ]); go_big_quiet_on)))); refine wpQuiet_nil ?_; intro w2 hW; obtain ⟨hB, hS, hC, hF⟩ := hW; clear hC hF; (try simp only [List.length_cons, List.length_nil] at hS); have d1 := fun o => (hB.cell (p := ⟨gi, o, none⟩) hgi).trans (c1 o); have d5 := fun o => (hB.cell (p := ⟨gq, o, none⟩) hgq).trans (c5 o); have s0 := (hB.cell (p := ⟨bp, op + k * 4, none⟩) hbp).trans r0; have s1 := (hB.cell (p := ⟨bp, op + k * 4 + 1, none⟩) hbp).trans r1)
              have hN : cellsN (ms.take k) + m.code.length + s + 1 < 400 := by have := cellsN_to HMx.out; have := H400.out; unfold sizeM at *; omega
              obtain ⟨N, hN0⟩ : ∃ N, N = cellsN (ms.take k) + m.code.length + s := ⟨_, rfl⟩
              have e1 : IntKind.i64.wrap (IntKind.i64.wrap ((cellsN (ms.take k) : Int) + m.code.length) + s) = (N : Int) := by
                rw [show IntKind.i64.wrap ((cellsN (ms.take k) : Int) + m.code.length) = (cellsN (ms.take k) : Int) + m.code.length from IntWalk.i64_in _ (by omega), show IntKind.i64.wrap ((cellsN (ms.take k) : Int) + m.code.length + s) = (cellsN (ms.take k) : Int) + m.code.length + s from IntWalk.i64_in _ (by omega), hN0]; omega
              rw [e1]
              have hNM : N + 1 < MM.length := by rw [hN0]; omega
              have hN4 : N < 400 := by omega
              have HN0 := Lib.hid hN0
              clear e1 hN hN0 hML d1 d5 s0 s1 r0 r1 c0 c1 c5 c6
              replace hI := hI.on hB
              clear hB hS hgi hgq hbp
              (try have c0 := hI.cell (i := 0) rfl); (try have c1 := hI.cell (i := 1) rfl); (try have c2 := hI.cell (i := 2) rfl); (try have c3 := hI.cell (i := 3) rfl); (try have c4 := hI.cell (i := 4) rfl); (try have c5 := hI.cell (i := 5) rfl); (try have c6 := hI.cell (i := 6) rfl); (try have c7 := hI.cell (i := 7) rfl); (try have c8 := hI.cell (i := 8) rfl); (try have c9 := hI.cell (i := 9) rfl); (try have c10 := hI.cell (i := 10) rfl); (try have c11 := hI.cell (i := 11) rfl); skip
              go_wp2_with (first
                | (refine listI rfl fun K hK => wpI_setRow _ _ rfl el_V hI 2 (i := N) (keyV' (findE es y.name).1.code) rfl (by omega) (by simp) rfl rfl fun w' hI' => hK _ _ ?_; clear hK K; (try replace HM1 := Lib.hid (HM1.out.grow hb)); (try replace HM2 := Lib.hid (HM2.out.grow hb)); (try replace HM3 := Lib.hid (HM3.out.grow hb)); (try replace HM4 := Lib.hid (HM4.out.grow hb)); (try clear hb); clear hI; have hI := hI'; clear hI'; (try simp only [List.cons_append, List.nil_append, List.set_cons_zero, List.set_cons_succ, List.setIfInBounds_toArray, Act.put, Act.eval, Array.getD_eq_getD_getElem?, List.getElem?_toArray, List.getElem?_cons_zero, List.getElem?_cons_succ, Option.getD_some] at hI); (try clear c0); (try clear c1); (try clear c2); (try clear c3); (try clear c4); (try clear c5); (try clear c6); (try clear c7); (try clear c8); (try clear c9); (try clear c10); (try clear c11); (try have c0 := hI.cell (i := 0) rfl); (try have c1 := hI.cell (i := 1) rfl); (try have c2 := hI.cell (i := 2) rfl); (try have c3 := hI.cell (i := 3) rfl); (try have c4 := hI.cell (i := 4) rfl); (try have c5 := hI.cell (i := 5) rfl); (try have c6 := hI.cell (i := 6) rfl); (try have c7 := hI.cell (i := 7) rfl); (try have c8 := hI.cell (i := 8) rfl); (try have c9 := hI.cell (i := 9) rfl); (try have c10 := hI.cell (i := 10) rfl); (try have c11 := hI.cell (i := 11) rfl); skip)
                | (refine listI rfl fun K hK => wpI_setRow _ _ rfl el_V hI 2 (i := N + 1) (keyV' (findE es y.name).1.data) rfl (by rw [List.length_set]; omega) (by first | (simp; done) | omega) rfl rfl fun w' hI' => hK _ _ ?_; clear hK K; (try replace HM1 := Lib.hid (HM1.out.grow hb)); (try replace HM2 := Lib.hid (HM2.out.grow hb)); (try replace HM3 := Lib.hid (HM3.out.grow hb)); (try replace HM4 := Lib.hid (HM4.out.grow hb)); (try clear hb); clear hI; have hI := hI'; clear hI'; (try simp only [List.cons_append, List.nil_append, List.set_cons_zero, List.set_cons_succ, List.setIfInBounds_toArray, Act.put, Act.eval, Array.getD_eq_getD_getElem?, List.getElem?_toArray, List.getElem?_cons_zero, List.getElem?_cons_succ, Option.getD_some] at hI); (try clear c0); (try clear c1); (try clear c2); (try clear c3); (try clear c4); (try clear c5); (try clear c6); (try clear c7); (try clear c8); (try clear c9); (try clear c10); (try clear c11); (try have c0 := hI.cell (i := 0) rfl); (try have c1 := hI.cell (i := 1) rfl); (try have c2 := hI.cell (i := 2) rfl); (try have c3 := hI.cell (i := 3) rfl); (try have c4 := hI.cell (i := 4) rfl); (try have c5 := hI.cell (i := 5) rfl); (try have c6 := hI.cell (i := 6) rfl); (try have c7 := hI.cell (i := 7) rfl); (try have c8 := hI.cell (i := 8) rfl); (try have c9 := hI.cell (i := 9) rfl); (try have c10 := hI.cell (i := 10) rfl); (try have c11 := hI.cell (i := 11) rfl); skip) | fail)
              have H2 := Lib.hid (show (MM.set N (keyV' (findE es y.name).1.code)).set (N + 1) (keyV' (findE es y.name).1.data) = memAt es ms k m (m.imports.take (j + 1)) by
                rw [List.take_add_one, HY.out, Option.toList_some, ← memAt_wire es ms k m _ y HS.out hsd, HMM.out, HN0.out])
              rw [H2.out] at hI
              replace hI := hI.first [_, _, _, _, _] [_, _] rfl
              go_roundw
              case rel => exact ⟨j + 1, _, by go_num, by omega, hI⟩
              case measure => simp [intOf]; omega
            · have H2 := Lib.hid (show memAt es ms k m (m.imports.take j) = memK es ms (k + 1) by rw [List.take_of_length_le hjg]; exact memAt_all HMx.out)
              rw [H2.out] at hI
              have hdj : decide ((j : Int) < m.imports.length) = false := by simp; omega
              go_wp2_with fail
              go_roundw
              case rel => exact ⟨k + 1, vm, by go_num, by omega, hI⟩
              case measure => simp [intOf]; omega
        · rw [memK_all (by omega)] at hI
          obtain ⟨MM, hMM⟩ : ∃ MM, (ms.flatMap fun m => modW es m.imports m) = MM := ⟨_, rfl⟩
          rw [hMM] at hI
          obtain ⟨Av, cv, hvm⟩ := (hI.own0 (enc := encV) (xs := MM) (size := 7) (i := 2) rfl).form
          subst hvm
          have HMM := Lib.hid (show MM = linkMem ms by rw [← hMM, ← HES.out]; rfl)
          clear hMM
          (try have c0 := hI.cell (i := 0) rfl); (try have c1 := hI.cell (i := 1) rfl); (try have c2 := hI.cell (i := 2) rfl); (try have c3 := hI.cell (i := 3) rfl); (try have c4 := hI.cell (i := 4) rfl); (try have c5 := hI.cell (i := 5) rfl); (try have c6 := hI.cell (i := 6) rfl); (try have c7 := hI.cell (i := 7) rfl); (try have c8 := hI.cell (i := 8) rfl); (try have c9 := hI.cell (i := 9) rfl); (try have c10 := hI.cell (i := 10) rfl); (try have c11 := hI.cell (i := 11) rfl); skip
          go_wp2_with (first | (refine listI rfl fun K hK => wpI_storeW _ _ _ rfl hI rfl 0 rfl rfl rfl (by kernel_rfl) (by simp [Value.oneCell']) fun w' hI' => hK _ _ ?_; clear hK K; (try replace HM1 := Lib.hid (HM1.out.grow hb)); (try replace HM2 := Lib.hid (HM2.out.grow hb)); (try replace HM3 := Lib.hid (HM3.out.grow hb)); (try replace HM4 := Lib.hid (HM4.out.grow hb)); (try clear hb); clear hI; have hI := hI'; clear hI'; (try simp only [List.cons_append, List.nil_append, List.set_cons_zero, List.set_cons_succ, List.setIfInBounds_toArray, Act.put, Act.eval, Array.getD_eq_getD_getElem?, List.getElem?_toArray, List.getElem?_cons_zero, List.getElem?_cons_succ, Option.getD_some] at hI); (try clear c0); (try clear c1); (try clear c2); (try clear c3); (try clear c4); (try clear c5); (try clear c6); (try clear c7); (try clear c8); (try clear c9); (try clear c10); (try clear c11); (try have c0 := hI.cell (i := 0) rfl); (try have c1 := hI.cell (i := 1) rfl); (try have c2 := hI.cell (i := 2) rfl); (try have c3 := hI.cell (i := 3) rfl); (try have c4 := hI.cell (i := 4) rfl); (try have c5 := hI.cell (i := 5) rfl); (try have c6 := hI.cell (i := 6) rfl); (try have c7 := hI.cell (i := 7) rfl); (try have c8 := hI.cell (i := 8) rfl); (try have c9 := hI.cell (i := 9) rfl); (try have c10 := hI.cell (i := 10) rfl); (try have c11 := hI.cell (i := 11) rfl); skip) | fail)
          have hbx := hI.box (i := 0) rfl
          ((try simp only [Exit.inBlock, Exit.then]); refine bodyPost_ret (results_ct rfl rfl hbx Try.underlying43 rfl (by kernel_rfl)) rfl ?_)
          rw [HMM.out] at hI ⊢
          exact ⟨Av, Ap, Ae, cv, cp, ce, by simp only [HPP.out, HES.out] <;> rfl, (InvT.own0 (enc := encV) (xs := linkMem ms) (size := 7) hI (i := 2) rfl).liesB (fun _ => rfl) rfl, by rw [HPP.out]; exact (InvT.own0 (enc := encC) (xs := PP) (size := 4) hI (i := 3) rfl).liesB (fun _ => rfl) rfl, by rw [HES.out]; exact (InvT.own0 (enc := encE) (xs := es) (size := 11) hI (i := 4) rfl).liesB (fun _ => rfl) rfl, hI.below⟩
end Go.Proofs.Ythdlfepakkihnaa
