/- The law LinkLinks: Link returns what the reference returns, for all arguments. Conditions: none. -/
import Derived.Test.YthdlfepakkihnaaLinkR
import Derived.Test.YthdlfepakkihnaaEqC
import Derived.Test.YthdlfepakkihnaaLaw
namespace Go.Proofs.Ythdlfepakkihnaa
open Go.ChangeShapes Go.WideShapes Go.ChangeAt Go.RowKit
set_option linter.unusedVariables false
set_option linter.unusedSimpArgs false
set_option maxRecDepth 100000
theorem Lies.growL {α : Type} {enc : α → List Value} {size : Nat} {w w' : World} {A : Option Addr} {xs : List α} (h : Lies enc size w w.heap.size A xs) (hb : Below w.heap.size w w') : Lies enc size w' w'.heap.size A xs := (h.below hb).more hb.size
/-- an image that lies somewhere -/
structure ImgV (w : World) (A P E : Option Addr) (r : List Val × List Place × List Entry) : Prop where
  mem : Lies encV 7 w w.heap.size A r.1
  places : Lies encC 4 w w.heap.size P r.2.1
  entries : Lies encE 11 w w.heap.size E r.2.2
theorem ImgV.grow {w w' : World} {A P E : Option Addr} {r : List Val × List Place × List Entry} (h : ImgV w A P E r) (hb : Below w.heap.size w w') : ImgV w' A P E r := ⟨h.mem.growL hb, h.places.growL hb, h.entries.growL hb⟩
theorem linkF_len (ms : List Mod) : (linkF ms).1.1.length ≤ 400 ∧ (linkF ms).1.2.1.length ≤ 8 ∧ (linkF ms).1.2.2.length ≤ 160 := by
  unfold linkF
  split
  · rename_i h
    obtain ⟨h8, hE, h4, -, -⟩ := linkE_ok h
    have h1 : (linkMem ms).length = cellsN ms := flatW_len _ (·.imports) ms
    have h2 := linkP_len ms
    have h3 := linkEs_160 h8 hE ms.length
    rw [List.take_length] at h3
    exact ⟨by show (linkMem ms).length ≤ 400; omega, by show (linkP ms).length ≤ 8; omega, h3⟩
  · exact ⟨Nat.zero_le _, Nat.zero_le _, Nat.zero_le _⟩
theorem c_link_Link (L : Option Addr) (c : Nat) (xs : List ModA) (w : World) (h1 : xs.length ≤ c) (h2 : c ≤ maxLen) (hM : ModsV w w.heap.size L xs) :
    Calls Try.prog 14 #[.slice L xs.length c] w (RetImg w (linkF (xs.map (·.m)))) := by
  by_cases h : linkE (xs.map (·.m)) = 0
  · exact c_link_ok L c xs w h1 h2 hM h
  · exact c_link_no L c xs w h1 h2 hM h
def badM (gl : Nat) : ModA := ⟨none, 0, none, 0, some ⟨gl, 0, none⟩, 1, none, 0, ⟨[], [], [⟨ByteArray.empty, 0⟩], []⟩⟩
theorem bad_E : linkE [⟨[], [], [⟨ByteArray.empty, 0⟩], []⟩] = 3 := by kernel_rfl
theorem c_link_bad (gl gm : Nat) (w : World) (h1 : Lies encL 2 w w.heap.size (some ⟨gl, 0, none⟩) [(⟨ByteArray.empty, 0⟩ : Label)]) (h2 : Lies encA 4 w w.heap.size (some ⟨gm, 0, none⟩) [badM gl]) :
    Calls Try.prog 14 #[.slice (some ⟨gm, 0, none⟩) 1 1] w (fun ed w' => ∃ (A P E : Option Addr) (a p e : Nat), ed = .returned (.tuple #[.agg #[.slice A 0 a, .slice P 0 p, .slice E 0 e], .int .i64 3]) ∧ Below w.heap.size w w') := by
  have hM : ModsV w w.heap.size (some ⟨gm, 0, none⟩) [badM gl] := ⟨h2, fun k x hx => by
    match k, hx with
    | 0, hx => cases hx; exact ⟨⟨Nat.le_refl _, Nat.zero_le _, Nat.le_refl _, Nat.zero_le _, Nat.le_refl _, (by show (1 : Nat) ≤ maxLen; decide), Nat.le_refl _, Nat.zero_le _⟩, Lies.nil_, Lies.nil_, h1, Lies.nil_⟩, fun k x hx => by
    match k, hx with
    | 0, hx =>
      cases hx
      exact ⟨fun i n h => by simp [badM] at h, fun i n h => by simp [badM] at h, fun i x h => by
        match i, h with
        | 0, h => cases h; exact ⟨(by decide), (by unfold i64; decide)⟩, fun i x h => by simp [badM] at h⟩⟩
  have hE : linkE ([badM gl].map (·.m)) = 3 := bad_E
  have hf : linkF ([badM gl].map (·.m)) = (([], [], []), 3) := by unfold linkF; rw [if_neg (by rw [hE]; decide), hE]
  have h := c_link_no (some ⟨gm, 0, none⟩) 1 [badM gl] w (Nat.le_refl _) (by decide) hM (by rw [hE]; decide)
  rw [hf] at h
  exact h.mono fun ed w' ⟨A, P, E, a, p, e, he, _, _, _, hb⟩ => ⟨A, P, E, a, p, e, he, hb⟩
set_option maxHeartbeats 4000000 in
theorem linkLinks_walk (L : Option Addr) (c : Nat) (xs : List ModA) (w : World) (h1 : xs.length ≤ c) (h2 : c ≤ maxLen) (hM : ModsV w w.heap.size L xs) :
    Calls Try.prog 5 #[.slice L xs.length c] w (Ret (.bool true) w) := by
  have HM := Lib.hid hM
  have HC := Lib.hid (fun W hM => c_link_Link L c xs W h1 h2 hM)
  have HR := Lib.hid (fun W hM => r_Link L c xs W h1 h2 hM)
  have hlen := linkF_len (xs.map (·.m))
  clear hM
  generalize linkF (xs.map (·.m)) = q at HC HR hlen
  obtain ⟨⟨M, Pp, E⟩, er⟩ := q
  dsimp only at hlen
  obtain ⟨hl1, hl2, hl3⟩ := hlen
  have hl1' : M.length < 9223372036854775807 := by omega
  have hl2' : Pp.length < 9223372036854775807 := by omega
  have hl3' : E.length < 9223372036854775807 := by omega
  have hI := Inv.start w
  have hfirst : True := trivial
  go_enter Try.func5, Try.ntmps5
  go_wp2_with (first
    | (have hq := hfirst; clear hfirst hq; go_at_call 14; refine (HC.out _ ((HM.out.below hI.below).more hI.size)).mono ?_; rintro e w' ⟨A1, P1, E1, a1, p1, e1, rfl, hA, hP, hE, hb⟩; have hI' := hI.on hb; (try replace HM1 := Lib.hid (HM1.out.grow hb)); (try replace HM2 := Lib.hid (HM2.out.grow hb)); (try replace HM3 := Lib.hid (HM3.out.grow hb)); (try replace HM4 := Lib.hid (HM4.out.grow hb)); (try clear hb); clear hI; have hI := hI'; clear hI'; (try simp only [List.cons_append, List.nil_append, List.set_cons_zero, List.set_cons_succ, List.setIfInBounds_toArray, Act.put, Act.eval, Array.getD_eq_getD_getElem?, List.getElem?_toArray, List.getElem?_cons_zero, List.getElem?_cons_succ, Option.getD_some] at hI); (try clear c0); (try clear c1); (try clear c2); (try clear c3); (try clear c4); (try clear c5); (try clear c6); (try clear c7); (try clear c8); (try clear c9); (try clear c10); (try clear c11); (try have c0 := hI.cell (i := 0) rfl); (try have c1 := hI.cell (i := 1) rfl); (try have c2 := hI.cell (i := 2) rfl); (try have c3 := hI.cell (i := 3) rfl); (try have c4 := hI.cell (i := 4) rfl); (try have c5 := hI.cell (i := 5) rfl); (try have c6 := hI.cell (i := 6) rfl); (try have c7 := hI.cell (i := 7) rfl); (try have c8 := hI.cell (i := 8) rfl); (try have c9 := hI.cell (i := 9) rfl); (try have c10 := hI.cell (i := 10) rfl); (try have c11 := hI.cell (i := 11) rfl); skip; have HM1 := Lib.hid (show ImgV _ A1 P1 E1 (M, Pp, E) from ⟨hA, hP, hE⟩); clear hA hP hE)
    | (go_at_call 15; refine (HR.out _ ((HM.out.below hI.below).more hI.size)).mono ?_; rintro e w' ⟨A2, P2, E2, a2, p2, e2, rfl, hA, hP, hE, hb⟩; have hI' := hI.on hb; (try replace HM1 := Lib.hid (HM1.out.grow hb)); (try replace HM2 := Lib.hid (HM2.out.grow hb)); (try replace HM3 := Lib.hid (HM3.out.grow hb)); (try replace HM4 := Lib.hid (HM4.out.grow hb)); (try clear hb); clear hI; have hI := hI'; clear hI'; (try simp only [List.cons_append, List.nil_append, List.set_cons_zero, List.set_cons_succ, List.setIfInBounds_toArray, Act.put, Act.eval, Array.getD_eq_getD_getElem?, List.getElem?_toArray, List.getElem?_cons_zero, List.getElem?_cons_succ, Option.getD_some] at hI); (try clear c0); (try clear c1); (try clear c2); (try clear c3); (try clear c4); (try clear c5); (try clear c6); (try clear c7); (try clear c8); (try clear c9); (try clear c10); (try clear c11); (try have c0 := hI.cell (i := 0) rfl); (try have c1 := hI.cell (i := 1) rfl); (try have c2 := hI.cell (i := 2) rfl); (try have c3 := hI.cell (i := 3) rfl); (try have c4 := hI.cell (i := 4) rfl); (try have c5 := hI.cell (i := 5) rfl); (try have c6 := hI.cell (i := 6) rfl); (try have c7 := hI.cell (i := 7) rfl); (try have c8 := hI.cell (i := 8) rfl); (try have c9 := hI.cell (i := 9) rfl); (try have c10 := hI.cell (i := 10) rfl); (try have c11 := hI.cell (i := 11) rfl); skip; have HM2 := Lib.hid (show ImgV _ A2 P2 E2 (M, Pp, E) from ⟨hA, hP, hE⟩); clear hA hP hE)
    | (refine listI_var rfl rfl 43 rfl _ _ rfl hI Try.zeroValue43 (fun _ => rfl) (fun _ => rfl) (by first | rfl | (simp only [hsz1]; first | done | rfl | kernel_rfl) | (simp only [hsz2]; first | done | rfl | kernel_rfl) | (simp only [hsz]; first | done | rfl | kernel_rfl) | kernel_rfl) (by first | exact info_mach (by assumption) | (simp only [hsz1]; kernel_rfl) | (simp only [hsz2]; kernel_rfl) | (simp only [hsz]; kernel_rfl) | kernel_rfl) (by first | (simp [Value.oneCell']; done) | exact HO1.out | exact HO2.out) fun gx w' hI' hb => ?_; (try replace HM1 := Lib.hid (HM1.out.grow hb)); (try replace HM2 := Lib.hid (HM2.out.grow hb)); (try replace HM3 := Lib.hid (HM3.out.grow hb)); (try replace HM4 := Lib.hid (HM4.out.grow hb)); (try clear hb); clear hI; have hI := hI'; clear hI'; (try simp only [List.cons_append, List.nil_append, List.set_cons_zero, List.set_cons_succ, List.setIfInBounds_toArray, Act.put, Act.eval, Array.getD_eq_getD_getElem?, List.getElem?_toArray, List.getElem?_cons_zero, List.getElem?_cons_succ, Option.getD_some] at hI); (try clear c0); (try clear c1); (try clear c2); (try clear c3); (try clear c4); (try clear c5); (try clear c6); (try clear c7); (try clear c8); (try clear c9); (try clear c10); (try clear c11); (try have c0 := hI.cell (i := 0) rfl); (try have c1 := hI.cell (i := 1) rfl); (try have c2 := hI.cell (i := 2) rfl); (try have c3 := hI.cell (i := 3) rfl); (try have c4 := hI.cell (i := 4) rfl); (try have c5 := hI.cell (i := 5) rfl); (try have c6 := hI.cell (i := 6) rfl); (try have c7 := hI.cell (i := 7) rfl); (try have c8 := hI.cell (i := 8) rfl); (try have c9 := hI.cell (i := 9) rfl); (try have c10 := hI.cell (i := 10) rfl); (try have c11 := hI.cell (i := 11) rfl); skip)
    | ((refine listI rfl fun K hK => wpI_slice1 _ 47 _ rfl hI Try.underlying48 rfl (size := 2) (by kernel_rfl) rfl fun gx w' hI' hb => hK _ _ ?_; clear hK K; (try replace HM1 := Lib.hid (HM1.out.grow hb)); (try replace HM2 := Lib.hid (HM2.out.grow hb)); (try replace HM3 := Lib.hid (HM3.out.grow hb)); (try replace HM4 := Lib.hid (HM4.out.grow hb)); (try clear hb); clear hI; have hI := hI'; clear hI'; (try simp only [List.cons_append, List.nil_append, List.set_cons_zero, List.set_cons_succ, List.setIfInBounds_toArray, Act.put, Act.eval, Array.getD_eq_getD_getElem?, List.getElem?_toArray, List.getElem?_cons_zero, List.getElem?_cons_succ, Option.getD_some] at hI); (try clear c0); (try clear c1); (try clear c2); (try clear c3); (try clear c4); (try clear c5); (try clear c6); (try clear c7); (try clear c8); (try clear c9); (try clear c10); (try clear c11); (try have c0 := hI.cell (i := 0) rfl); (try have c1 := hI.cell (i := 1) rfl); (try have c2 := hI.cell (i := 2) rfl); (try have c3 := hI.cell (i := 3) rfl); (try have c4 := hI.cell (i := 4) rfl); (try have c5 := hI.cell (i := 5) rfl); (try have c6 := hI.cell (i := 6) rfl); (try have c7 := hI.cell (i := 7) rfl); (try have c8 := hI.cell (i := 8) rfl); (try have c9 := hI.cell (i := 9) rfl); (try have c10 := hI.cell (i := 10) rfl); (try have c11 := hI.cell (i := 11) rfl); skip); obtain ⟨gl, rfl⟩ : ∃ y, y = gx := ⟨_, rfl⟩)
    | ((refine listI rfl fun K hK => wpI_slice1 _ 51 _ rfl hI Try.underlying39 rfl (size := 4) (by kernel_rfl) rfl fun gx w' hI' hb => hK _ _ ?_; clear hK K; (try replace HM1 := Lib.hid (HM1.out.grow hb)); (try replace HM2 := Lib.hid (HM2.out.grow hb)); (try replace HM3 := Lib.hid (HM3.out.grow hb)); (try replace HM4 := Lib.hid (HM4.out.grow hb)); (try clear hb); clear hI; have hI := hI'; clear hI'; (try simp only [List.cons_append, List.nil_append, List.set_cons_zero, List.set_cons_succ, List.setIfInBounds_toArray, Act.put, Act.eval, Array.getD_eq_getD_getElem?, List.getElem?_toArray, List.getElem?_cons_zero, List.getElem?_cons_succ, Option.getD_some] at hI); (try clear c0); (try clear c1); (try clear c2); (try clear c3); (try clear c4); (try clear c5); (try clear c6); (try clear c7); (try clear c8); (try clear c9); (try clear c10); (try clear c11); (try have c0 := hI.cell (i := 0) rfl); (try have c1 := hI.cell (i := 1) rfl); (try have c2 := hI.cell (i := 2) rfl); (try have c3 := hI.cell (i := 3) rfl); (try have c4 := hI.cell (i := 4) rfl); (try have c5 := hI.cell (i := 5) rfl); (try have c6 := hI.cell (i := 6) rfl); (try have c7 := hI.cell (i := 7) rfl); (try have c8 := hI.cell (i := 8) rfl); (try have c9 := hI.cell (i := 9) rfl); (try have c10 := hI.cell (i := 10) rfl); (try have c11 := hI.cell (i := 11) rfl); skip); obtain ⟨gm, rfl⟩ : ∃ y, y = gx := ⟨_, rfl⟩)
    | (go_at_call 14; refine (c_link_bad gl gm _ ((hI.lies1 (i := 2) rfl _ (fun j hj => by rw [List.getElem?_toArray]; rfl)).more (hI.lt (i := 2) rfl rfl)) ((hI.lies1 (i := 3) rfl _ (fun j hj => by rw [List.getElem?_toArray]; rfl)).more (hI.lt (i := 3) rfl rfl))).mono ?_; rintro e w' ⟨A3, P3, E3, a3, p3, e3, rfl, hb⟩; have hI' := hI.on hb; (try replace HM1 := Lib.hid (HM1.out.grow hb)); (try replace HM2 := Lib.hid (HM2.out.grow hb)); (try replace HM3 := Lib.hid (HM3.out.grow hb)); (try replace HM4 := Lib.hid (HM4.out.grow hb)); (try clear hb); clear hI; have hI := hI'; clear hI'; (try simp only [List.cons_append, List.nil_append, List.set_cons_zero, List.set_cons_succ, List.setIfInBounds_toArray, Act.put, Act.eval, Array.getD_eq_getD_getElem?, List.getElem?_toArray, List.getElem?_cons_zero, List.getElem?_cons_succ, Option.getD_some] at hI); (try clear c0); (try clear c1); (try clear c2); (try clear c3); (try clear c4); (try clear c5); (try clear c6); (try clear c7); (try clear c8); (try clear c9); (try clear c10); (try clear c11); (try have c0 := hI.cell (i := 0) rfl); (try have c1 := hI.cell (i := 1) rfl); (try have c2 := hI.cell (i := 2) rfl); (try have c3 := hI.cell (i := 3) rfl); (try have c4 := hI.cell (i := 4) rfl); (try have c5 := hI.cell (i := 5) rfl); (try have c6 := hI.cell (i := 6) rfl); (try have c7 := hI.cell (i := 7) rfl); (try have c8 := hI.cell (i := 8) rfl); (try have c9 := hI.cell (i := 9) rfl); (try have c10 := hI.cell (i := 10) rfl); (try have c11 := hI.cell (i := 11) rfl); skip)
    | (go_at_call 16; (with_reducible refine (r_Eq_V A1 A2 a1 a2 M M _ hl1' HM1.out.mem HM2.out.mem).mono ?_); intro e w' hr; obtain ⟨rfl, hb⟩ := hr; have hI' := hI.on hb; (try replace HM1 := Lib.hid (HM1.out.grow hb)); (try replace HM2 := Lib.hid (HM2.out.grow hb)); (try replace HM3 := Lib.hid (HM3.out.grow hb)); (try replace HM4 := Lib.hid (HM4.out.grow hb)); (try clear hb); clear hI; have hI := hI'; clear hI'; (try simp only [List.cons_append, List.nil_append, List.set_cons_zero, List.set_cons_succ, List.setIfInBounds_toArray, Act.put, Act.eval, Array.getD_eq_getD_getElem?, List.getElem?_toArray, List.getElem?_cons_zero, List.getElem?_cons_succ, Option.getD_some] at hI); (try clear c0); (try clear c1); (try clear c2); (try clear c3); (try clear c4); (try clear c5); (try clear c6); (try clear c7); (try clear c8); (try clear c9); (try clear c10); (try clear c11); (try have c0 := hI.cell (i := 0) rfl); (try have c1 := hI.cell (i := 1) rfl); (try have c2 := hI.cell (i := 2) rfl); (try have c3 := hI.cell (i := 3) rfl); (try have c4 := hI.cell (i := 4) rfl); (try have c5 := hI.cell (i := 5) rfl); (try have c6 := hI.cell (i := 6) rfl); (try have c7 := hI.cell (i := 7) rfl); (try have c8 := hI.cell (i := 8) rfl); (try have c9 := hI.cell (i := 9) rfl); (try have c10 := hI.cell (i := 10) rfl); (try have c11 := hI.cell (i := 11) rfl); skip)
    | (go_at_call 17; (with_reducible refine (r_Eq_C P1 P2 p1 p2 Pp Pp _ hl2' HM1.out.places HM2.out.places).mono ?_); intro e w' hr; obtain ⟨rfl, hb⟩ := hr; have hI' := hI.on hb; (try replace HM1 := Lib.hid (HM1.out.grow hb)); (try replace HM2 := Lib.hid (HM2.out.grow hb)); (try replace HM3 := Lib.hid (HM3.out.grow hb)); (try replace HM4 := Lib.hid (HM4.out.grow hb)); (try clear hb); clear hI; have hI := hI'; clear hI'; (try simp only [List.cons_append, List.nil_append, List.set_cons_zero, List.set_cons_succ, List.setIfInBounds_toArray, Act.put, Act.eval, Array.getD_eq_getD_getElem?, List.getElem?_toArray, List.getElem?_cons_zero, List.getElem?_cons_succ, Option.getD_some] at hI); (try clear c0); (try clear c1); (try clear c2); (try clear c3); (try clear c4); (try clear c5); (try clear c6); (try clear c7); (try clear c8); (try clear c9); (try clear c10); (try clear c11); (try have c0 := hI.cell (i := 0) rfl); (try have c1 := hI.cell (i := 1) rfl); (try have c2 := hI.cell (i := 2) rfl); (try have c3 := hI.cell (i := 3) rfl); (try have c4 := hI.cell (i := 4) rfl); (try have c5 := hI.cell (i := 5) rfl); (try have c6 := hI.cell (i := 6) rfl); (try have c7 := hI.cell (i := 7) rfl); (try have c8 := hI.cell (i := 8) rfl); (try have c9 := hI.cell (i := 9) rfl); (try have c10 := hI.cell (i := 10) rfl); (try have c11 := hI.cell (i := 11) rfl); skip)
    | (go_at_call 18; (with_reducible refine (r_Eq_E E1 E2 e1 e2 E E _ hl3' HM1.out.entries HM2.out.entries).mono ?_); intro e w' hr; obtain ⟨rfl, hb⟩ := hr; have hI' := hI.on hb; (try replace HM1 := Lib.hid (HM1.out.grow hb)); (try replace HM2 := Lib.hid (HM2.out.grow hb)); (try replace HM3 := Lib.hid (HM3.out.grow hb)); (try replace HM4 := Lib.hid (HM4.out.grow hb)); (try clear hb); clear hI; have hI := hI'; clear hI'; (try simp only [List.cons_append, List.nil_append, List.set_cons_zero, List.set_cons_succ, List.setIfInBounds_toArray, Act.put, Act.eval, Array.getD_eq_getD_getElem?, List.getElem?_toArray, List.getElem?_cons_zero, List.getElem?_cons_succ, Option.getD_some] at hI); (try clear c0); (try clear c1); (try clear c2); (try clear c3); (try clear c4); (try clear c5); (try clear c6); (try clear c7); (try clear c8); (try clear c9); (try clear c10); (try clear c11); (try have c0 := hI.cell (i := 0) rfl); (try have c1 := hI.cell (i := 1) rfl); (try have c2 := hI.cell (i := 2) rfl); (try have c3 := hI.cell (i := 3) rfl); (try have c4 := hI.cell (i := 4) rfl); (try have c5 := hI.cell (i := 5) rfl); (try have c6 := hI.cell (i := 6) rfl); (try have c7 := hI.cell (i := 7) rfl); (try have c8 := hI.cell (i := 8) rfl); (try have c9 := hI.cell (i := 9) rfl); (try have c10 := hI.cell (i := 10) rfl); (try have c11 := hI.cell (i := 11) rfl); skip) | fail)
  go_returns
  exact Ret.bool (by simp) hI.below
theorem linkLinks_open {H : Type} (enc : TypeId × Value → H) (W : World) (base : Nat) (args : Array Value) (ds : List (DataW H)) (ps : List MemPlace)
    (hval : ∀ (j : Nat) t v, Try.f5.params[j]? = some t → args[j]? = some v → Value.okWide Try.prog W .any base t v)
    (hA : DataW.TrodAll enc Try.prog W 0 (fun _ => true) true Try.f5.params.toList args.toList ds ps) (hlt : ∀ x ∈ ps, x.block < W.heap.size)
    (hsz : (DataW.weightsEach Try.prog Try.f5.params.toList ds).all (· ≤ reachBytes) = true) :
    Calls Try.prog 5 args W fun e W' => e = .returned (.bool true) ∧ Below W.heap.size W W' := by
  rw [Try.params5] at hA hval
  obtain ⟨v0, d0, rfl, rfl, h0⟩ := trodAll_one hA
  obtain ⟨L, c, xs, rfl, h1, h2, hM⟩ := open_modules (hval 0 _ v0 rfl rfl) h0
  exact (linkLinks_walk L c xs W h1 h2 hM).mono fun e W' hr => hr
set_option maxRecDepth 100000 in
theorem linkLinks_lifted (os : Os) (started : os.Started) (H : Type) (enc : TypeId × Value → H) :
    ReturnsInHanded {} Try.checked os 5 .any (Rows.linkLinksSpec.pre6 enc Try.prog Try.f5 [] false) (Rows.linkLinksSpec.post enc Try.prog Try.f5 false true false false) :=
  lifted (C := Try.checked) (s := Rows.linkLinksSpec) (by kernel_rfl) started (by kernel_rfl) Try.func5
    (ChangeSpec.witness6 (enc := enc) (C := Try.checked) false ⟨#[], #[.slice none 0 0], []⟩ 12 (by kernel_rfl) (by kernel_rfl) (by kernel_rfl) (by kernel_rfl))
    (by kernel_rfl) (by kernel_rfl) rfl rfl Try.underlying4
    (fun ds h => by match ds, h with | [_], _ => exact ⟨rfl, rfl, rfl⟩)
    (fun W base args ds ps hval hA hlt hsz => linkLinks_open enc W base args ds ps hval hA hlt hsz)
theorem linkLinks_holds : Rows.LinkLinksSaid :=
  OpenClaim.holds_of_wide 5 Try.f5 rfl rfl rfl rfl rfl rfl rfl ⟨rfl, rfl, rfl, rfl, rfl⟩ rfl rfl rfl rfl rfl (by kernel_rfl) Try.func5 (by kernel_rfl)
    (of_decide_eq_true (by kernel_rfl)) (by unfold Func.isWrapper; first | (rw [if_pos (by decide +kernel)]; kernel_rfl) | (rw [if_neg (by decide +kernel)]; exact ⟨rfl, rfl⟩))
    (fun os started H enc _ => linkLinks_lifted os started H enc)
#print axioms linkLinks_holds
end Go.Proofs.Ythdlfepakkihnaa
