/- The contract of the reference's HeapClean: it returns the same plain function of its pieces. Conditions: none. -/
import Derived.Test.YtmalaomcolgfcaaHeapClean
import Derived.Deep.AppendLies
namespace Go.Proofs.Ytmalaomcolgfcaa
open Go.RowKit
set_option linter.unusedVariables false
set_option linter.unusedSimpArgs false

def withLen (p : Piece) (m : Int) : Piece := { p with len := m }
/-- a piece's first m cells taken in -/
def cellTo (ys : List Piece) (p : Piece) (m : Nat) : List Piece := if m = 0 then ys else cleanStep ys (withLen p m)
theorem cellTo_zero (ys : List Piece) (p : Piece) : cellTo ys p 0 = ys := rfl
theorem cellTo_all {ys : List Piece} {p : Piece} {m : Nat} (h : p.len = m) (h1 : 1 ≤ p.len) : cellTo ys p m = cleanStep ys p := by
  unfold cellTo
  rw [if_neg (by omega)]
  congr 1
  show Piece.mk p.base m p.state = p
  rw [← h]
theorem clean1_with (p : Piece) (m : Int) : clean1 (withLen p m) = withLen (clean1 p) m := by
  unfold clean1 withLen
  by_cases h : (p.state == 2) = true <;> simp [h]
theorem cellTo_one (ys : List Piece) (p : Piece) : cellTo ys p 1 = cleanStep ys (withLen p 1) := rfl
theorem cellTo_next {ys : List Piece} {p : Piece} {m : Nat} (hm : mayP p = true) (h0 : 0 < m) :
    ∃ j q, (cellTo ys p m).length = j + 1 ∧ (cellTo ys p m)[j]? = some q ∧ ((p.state == 1) = true ∨ (q.state == 0) = true) ∧ cellTo ys p (m + 1) = (cellTo ys p m).set j (addLen q 1) := by
  have hm' := mayP_iff.1 hm
  have e1 : cellTo ys p m = cleanStep ys (withLen p m) := by unfold cellTo; rw [if_neg (by omega)]
  have e2 : cellTo ys p (m + 1) = cleanStep ys (withLen p (m + 1 : Nat)) := by unfold cellTo; rw [if_neg (by omega)]
  rw [e1, e2]
  have happ : ∀ n : Int, clean1 (withLen p n) = withLen (clean1 p) n := clean1_with p
  have hst : (p.state == 1) = true ∨ ((clean1 p).state == 0) = true := by
    unfold clean1
    by_cases h2 : p.state = 2
    · right; simp [h2]
    · by_cases h1 : p.state = 1
      · left; simp [h1]
      · right; have : p.state = 0 := by omega
        simp [this]
  have one : ∀ n : Int, cleanStep ys (withLen p n) = ys ++ [withLen (clean1 p) n] →
      ∃ j q, (ys ++ [withLen (clean1 p) n]).length = j + 1 ∧ (ys ++ [withLen (clean1 p) n])[j]? = some q ∧ ((p.state == 1) = true ∨ (q.state == 0) = true) ∧ ys ++ [withLen (clean1 p) (n + 1)] = (ys ++ [withLen (clean1 p) n]).set j (addLen q 1) := fun n _ =>
    ⟨ys.length, withLen (clean1 p) n, by simp, by simp, hst, by simp [List.set_append_right, addLen, withLen]⟩
  rcases Nat.eq_zero_or_pos ys.length with hy | hy
  · obtain rfl : ys = [] := List.eq_nil_of_length_eq_zero hy
    have ha : ∀ n : Int, cleanStep [] (withLen p n) = [] ++ [withLen (clean1 p) n] := fun n => by rw [cleanStep_nil, happ]; rfl
    rw [ha, ha]
    exact one m (ha m)
  · obtain ⟨j, hj⟩ : ∃ j, ys.length = j + 1 := ⟨ys.length - 1, by omega⟩
    obtain ⟨q, hq⟩ : ∃ q, ys[j]? = some q := ⟨_, List.getElem?_eq_getElem (by omega)⟩
    by_cases hc : ((clean1 p).state == 0) = true ∧ (q.state == 0) = true
    · have hs : ∀ n : Int, ((clean1 (withLen p n)).state == 0) = true := fun n => by rw [happ]; exact hc.1
      rw [cleanStep_last hj hq (hs _) hc.2, cleanStep_last hj hq (hs _) hc.2]
      refine ⟨j, addLen q m, by simpa using hj, by rw [List.getElem?_set_self (by omega)]; rfl, .inr hc.2, ?_⟩
      rw [List.set_set]
      congr 1
      show Piece.mk q.base (q.len + ((m + 1 : Nat) : Int)) q.state = Piece.mk q.base (q.len + m + 1) q.state
      congr 1
      omega
    · have hs : ∀ n : Int, ((clean1 (withLen p n)).state == 0) = false ∨ (q.state == 0) = false := fun n => by
        rw [happ]
        show ((clean1 p).state == 0) = false ∨ (q.state == 0) = false
        cases h1 : ((clean1 p).state == 0)
        · exact .inl rfl
        · cases h2 : (q.state == 0)
          · exact .inr rfl
          · exact absurd ⟨h1, h2⟩ hc
      have ha : ∀ n : Int, cleanStep ys (withLen p n) = ys ++ [withLen (clean1 p) n] := fun n => by rw [cleanStep_one hj hq (hs n), happ]
      rw [ha, ha]
      exact one m (ha m)
theorem cleanStep_len {ys : List Piece} {p : Piece} {B : Int} (hB : ∀ q ∈ ys, 1 ≤ q.len ∧ q.len ≤ B) (h0 : 0 ≤ B) (hp : 1 ≤ p.len) : ∀ q ∈ cleanStep ys p, 1 ≤ q.len ∧ q.len ≤ B + p.len := by
  intro q hq
  have happ : q ∈ ys ++ [clean1 p] → 1 ≤ q.len ∧ q.len ≤ B + p.len := fun hq => by
    rcases List.mem_append.1 hq with hq | hq
    · have := hB q hq; omega
    · rw [List.mem_singleton.1 hq, clean1_len]; omega
  unfold cleanStep at hq
  split at hq
  · rename_i r hr
    have hr' := hB r (List.mem_of_getElem? hr)
    split at hq
    · rcases List.mem_or_eq_of_mem_set hq with hq | rfl
      · have := hB q hq; omega
      · show 1 ≤ r.len + p.len ∧ r.len + p.len ≤ _
        omega
    · exact happ hq
  · exact happ hq
theorem cellTo_len {ys : List Piece} {p : Piece} {B : Int} (hB : ∀ q ∈ ys, 1 ≤ q.len ∧ q.len ≤ B) (h0 : 0 ≤ B) (m : Nat) : ∀ q ∈ cellTo ys p m, 1 ≤ q.len ∧ q.len ≤ B + m := by
  intro q hq
  unfold cellTo at hq
  split at hq
  · have := hB q hq; omega
  · rename_i hm
    exact cleanStep_len hB h0 (p := withLen p m) (show (1 : Int) ≤ m by omega) q hq
theorem cellTo_length (ys : List Piece) (p : Piece) (m : Nat) : (cellTo ys p m).length ≤ ys.length + 1 := by
  unfold cellTo
  split
  · omega
  · exact cleanStep_length _ _

set_option maxHeartbeats 2000000 in
set_option maxRecDepth 100000 in
theorem r_HeapClean (A : Option Addr) (c : Nat) (xs : List Piece) (w : World) (hL : Lies encP 3 w w.heap.size A xs) :
    Calls Try.prog 18 #[.slice A xs.length c] w (RetOwn encP 31 3 w (heapClean xs).1 fun v => .tuple #[v, .int .i64 (heapClean xs).2]) := by
  cases he : (heapE xs != 0)
  · have he' : heapE xs = 0 := by simpa using he
    have hlen := heapE_len he'
    have H0 := Lib.hid (show heapClean xs = (cleanL xs xs.length, 0) by simp [heapClean, he'])
    have HM := Lib.hid (fun (i : Nat) p (h : xs[i]? = some p) => heapE_may he' h)
    clear he'
    go_enter Try.func18, Try.ntmps18
    go_wp2_with (go_at_call 46; (with_reducible refine (r_HeapCheck A c xs _ hL).mono ?_); intro e w1 hr; obtain ⟨rfl, hb, hc, hf, hz⟩ := hr.use; (try simp only [World.size_alloc, World.size_setCell, World.size_drew] at hz); clear hr)
    go_loopw [5, 7, 8, 9, 17] (fun v5 _ _ _ v wr => ∃ k : Nat, v = .int .i64 k ∧ k ≤ xs.length ∧ Own encP 31 3 wr w.heap.size v5 (cleanL xs k) ∧ Below w.heap.size w wr) (fun _ _ _ _ v _ => (xs.length - intOf v).toNat)
    case atStart => exact ⟨0, rfl, by omega, Own.nil_, by (repeat' (first | (with_reducible exact Below.refl _ _) | (with_reducible assumption) | (with_reducible refine Below.alloc ?_ ?_ _) | (with_reducible refine Below.drew ?_) | (with_reducible refine Below.setCell ?_ ?_ _) | (refine Below.trans ?_ (Below.mono (by with_reducible assumption) ?_)) | go_size))⟩
    case round =>
      obtain ⟨k, rfl, hk, hO, hbw⟩ := hrel
      have hbz := hbw.size
      have hyk := cleanL_length xs k
      have hyl := cleanL_len HM.out k
      have HS := Lib.hid (fun p (h : xs[k]? = some p) => cleanL_succ h)
      obtain ⟨ys, hys⟩ : ∃ ys, ys = cleanL xs k := ⟨_, rfl⟩
      rw [← hys] at hO hyk hyl HS
      have HYS := Lib.hid hys
      have HY := Lib.hid hyl
      have HO := Lib.hid hO
      clear hys hyl hO
      rcases Nat.lt_or_ge k xs.length with hlt | hge
      · obtain ⟨b, o, p, rfl, hb, hp, q0, q1, q2⟩ := (hL.below hbw).cellsP hlt
        have hm := HM.out k p hp
        have hm' := mayP_iff.1 hm
        have HX := Lib.hid hp
        clear hp
        obtain ⟨pb, pl, ps⟩ := p
        simp only at q0 q1 q2 hm'
        obtain ⟨n, rfl⟩ : ∃ n : Nat, pl = n := ⟨pl.toNat, by omega⟩
        obtain ⟨wo, hwo⟩ : ∃ wo : World, wo = wr := ⟨_, rfl⟩
        subst hwo
        go_wp2
        go_loopw [5, 8, 9, 23] (fun v5 _ _ v wi => ∃ m : Nat, v = .int .i64 m ∧ m ≤ n ∧ Own encP 31 3 wi w.heap.size v5 (cellTo ys ⟨pb, n, ps⟩ m) ∧ v5.ownBlock ≠ some wo.heap.size ∧ wo.heap.size < wi.heap.size ∧ (∀ o, wi.cell? ⟨wo.heap.size, o, none⟩ = #[.int .i64 pb, .int .i64 n, .int .i64 ps][o]?) ∧ Below w.heap.size w wi) (fun _ _ _ v _ => (n - intOf v).toNat)
        case atStart =>
          refine ⟨0, rfl, by omega, by rw [cellTo_zero]; exact HO.out.alloc _, fun h => ?_, by simp [World.size_alloc], fun o => World.cell?_alloc_at _ _ _ _ rfl, by (repeat' (first | (with_reducible exact Below.refl _ _) | (with_reducible assumption) | (with_reducible refine Below.alloc ?_ ?_ _) | (with_reducible refine Below.drew ?_) | (with_reducible refine Below.setCell ?_ ?_ _) | (refine Below.trans ?_ (Below.mono (by with_reducible assumption) ?_)) | go_size))⟩
          exact absurd (HO.out.lt _ h).2 (by omega)
        case round =>
          obtain ⟨m, rfl, hmn, hO, hne, hPl, hPc, hbi⟩ := hrel
          have hbiz := hbi.size
          rcases Nat.lt_or_ge m n with hlm | hgm
          · have HB := Lib.hid (cellTo_len (p := ⟨pb, n, ps⟩) HY.out (by omega) m)
            have hzl := cellTo_length ys ⟨pb, n, ps⟩ m
            rcases m with _ | m
            · rw [cellTo_zero] at hO hzl HB
              have HN1 := Lib.hid (cellTo_one ys ⟨pb, n, ps⟩)
              obtain ⟨A5, c5, rfl, hL5⟩ := hO.lies (fun _ => rfl)
              have HO0 := Lib.hid hO
              clear hO
              rcases Nat.eq_zero_or_pos ys.length with h0 | h0
              · obtain rfl : ys = [] := List.eq_nil_of_length_eq_zero h0
                have HO1 := HO0
                clear h0 HO0
                obtain rfl | rfl | rfl : ps = 0 ∨ ps = 1 ∨ ps = 2 := by omega
                · have HN := Lib.hid (HN1.out.trans (cleanStep_nil _))
                  go_wp2_with (at_builtin; refine wpList_app rfl _ _ rfl el_P (HO1.out.alloc _) (ys := [clean1 ⟨pb, 1, 0⟩]) (Lies.one _ _ _ (clean1 ⟨pb, 1, 0⟩) rfl (fun j hj => by rw [List.getElem?_toArray]; rfl)) rfl rfl rfl (by simp only [List.length_cons, List.length_nil, maxLen]; omega) (by simp only [List.length_cons, List.length_nil]; omega) (by simp only [World.size_alloc]; omega) ?_; intro v' w2 hO2 hg2 hat2)
                  have hz2 := hg2.size
                  simp only [World.size_alloc] at hz2
                  go_roundw
                  case rel =>
                    refine ⟨1, by go_num, by omega, by rw [HN.out]; exact hO2, ?_, by omega, fun o => ?_, ?_⟩
                    · rcases hat2 with h | h <;> rw [h]
                      · exact hne
                      · simp only [World.size_alloc]; intro h; injection h; omega
                    · exact (hg2.cell_far _ (by simp only [World.size_alloc]; omega) (Ne.symm hne)).trans ((World.cell?_alloc_lt _ _ _ hPl).trans (hPc o))
                    · exact (hbi.alloc (by omega) _).grown hg2 (by simp only [World.size_alloc]; omega) fun k hk => (HO1.out.lt k hk).1
                  case measure => simp [intOf]; omega
                · have HN := Lib.hid (HN1.out.trans (cleanStep_nil _))
                  go_wp2_with (at_builtin; refine wpList_app rfl _ _ rfl el_P (HO1.out.alloc _) (ys := [clean1 ⟨pb, 1, 1⟩]) (Lies.one _ _ _ (clean1 ⟨pb, 1, 1⟩) rfl (fun j hj => by rw [List.getElem?_toArray]; rfl)) rfl rfl rfl (by simp only [List.length_cons, List.length_nil, maxLen]; omega) (by simp only [List.length_cons, List.length_nil]; omega) (by simp only [World.size_alloc]; omega) ?_; intro v' w2 hO2 hg2 hat2)
                  have hz2 := hg2.size
                  simp only [World.size_alloc] at hz2
                  go_roundw
                  case rel =>
                    refine ⟨1, by go_num, by omega, by rw [HN.out]; exact hO2, ?_, by omega, fun o => ?_, ?_⟩
                    · rcases hat2 with h | h <;> rw [h]
                      · exact hne
                      · simp only [World.size_alloc]; intro h; injection h; omega
                    · exact (hg2.cell_far _ (by simp only [World.size_alloc]; omega) (Ne.symm hne)).trans ((World.cell?_alloc_lt _ _ _ hPl).trans (hPc o))
                    · exact (hbi.alloc (by omega) _).grown hg2 (by simp only [World.size_alloc]; omega) fun k hk => (HO1.out.lt k hk).1
                  case measure => simp [intOf]; omega
                · have HN := Lib.hid (HN1.out.trans (cleanStep_nil _))
                  go_wp2_with (at_builtin; refine wpList_app rfl _ _ rfl el_P (HO1.out.alloc _) (ys := [clean1 ⟨pb, 1, 2⟩]) (Lies.one _ _ _ (clean1 ⟨pb, 1, 2⟩) rfl (fun j hj => by rw [List.getElem?_toArray]; rfl)) rfl rfl rfl (by simp only [List.length_cons, List.length_nil, maxLen]; omega) (by simp only [List.length_cons, List.length_nil]; omega) (by simp only [World.size_alloc]; omega) ?_; intro v' w2 hO2 hg2 hat2)
                  have hz2 := hg2.size
                  simp only [World.size_alloc] at hz2
                  go_roundw
                  case rel =>
                    refine ⟨1, by go_num, by omega, by rw [HN.out]; exact hO2, ?_, by omega, fun o => ?_, ?_⟩
                    · rcases hat2 with h | h <;> rw [h]
                      · exact hne
                      · simp only [World.size_alloc]; intro h; injection h; omega
                    · exact (hg2.cell_far _ (by simp only [World.size_alloc]; omega) (Ne.symm hne)).trans ((World.cell?_alloc_lt _ _ _ hPl).trans (hPc o))
                    · exact (hbi.alloc (by omega) _).grown hg2 (by simp only [World.size_alloc]; omega) fun k hk => (HO1.out.lt k hk).1
                  case measure => simp [intOf]; omega
              · obtain ⟨j, hj⟩ : ∃ j, ys.length = j + 1 := ⟨ys.length - 1, by omega⟩
                clear h0
                obtain ⟨b5, o5, q, rfl, hb5, hq, r0, r1, r2⟩ := hL5.cellsP (k := j) (by omega)
                obtain ⟨g, hgA, hg1, hg2', hgf, _⟩ := HO0.out.at_ hq
                cases hgA
                simp only [Nat.zero_add] at r0 r1 r2
                have hqb := HB.out q (List.mem_of_getElem? hq)
                have HQ := Lib.hid hq
                have hne' : b5 ≠ wo.heap.size := fun h => hne (by rw [h]; rfl)
                have HJ := Lib.hid hj
                have hjb : j ≤ 40 := by omega
                have e1 : IntKind.i64.wrap (q.len + 1) = q.len + 1 := IntWalk.i64_in _ (by omega)
                have e2 : (j : Int) < (j : Int) + 1 := by omega
                rw [hj]
                have HO1 := Lib.hid HO0.out
                clear HO0 hq
                rw [hj] at HO1 hne
                clear hj hL5
                obtain rfl | rfl | rfl : ps = 0 ∨ ps = 1 ∨ ps = 2 := by omega
                · cases h3 : (q.state == 0)
                  · have HN := Lib.hid (HN1.out.trans (cleanStep_one HJ.out HQ.out (.inr h3)))
                    go_wp2_with (at_builtin; refine wpList_app rfl _ _ rfl el_P (HO1.out.alloc _) (ys := [clean1 ⟨pb, 1, 0⟩]) (Lies.one _ _ _ (clean1 ⟨pb, 1, 0⟩) rfl (fun j hj => by rw [List.getElem?_toArray]; rfl)) rfl rfl rfl (by simp only [List.length_cons, List.length_nil, maxLen]; omega) (by simp only [List.length_cons, List.length_nil]; omega) (by simp only [World.size_alloc]; omega) ?_; intro v' w2 hO2 hg2 hat2)
                    have hz2 := hg2.size
                    simp only [World.size_alloc] at hz2
                    go_roundw
                    case rel =>
                      refine ⟨1, by go_num, by omega, by rw [HN.out]; exact hO2, ?_, by omega, fun o => ?_, ?_⟩
                      · rcases hat2 with h | h <;> rw [h]
                        · exact hne
                        · simp only [World.size_alloc]; intro h; injection h; omega
                      · exact (hg2.cell_far _ (by simp only [World.size_alloc]; omega) (Ne.symm hne)).trans ((World.cell?_alloc_lt _ _ _ hPl).trans (hPc o))
                      · exact (hbi.alloc (by omega) _).grown hg2 (by simp only [World.size_alloc]; omega) fun k hk => (HO1.out.lt k hk).1
                    case measure => simp [intOf]; omega
                  · have HN := Lib.hid (HN1.out.trans (cleanStep_last HJ.out HQ.out rfl h3))
                    go_wp2
                    go_roundw
                    case rel => exact ⟨0 + 1, by go_num, by omega, by rw [HN.out]; exact HO1.out.set_ (y := addLen q 1) (j := 1) (fun _ => rfl) HQ.out (by decide) rfl, hne, by simpa [World.size_setCell] using hPl, fun o => (World.cell?_setCell_other _ _ _ _ (fun e => by have := congrArg Addr.block e; simp at this; omega)).trans (hPc o), by (repeat' (first | (with_reducible exact Below.refl _ _) | (with_reducible assumption) | (with_reducible refine Below.alloc ?_ ?_ _) | (with_reducible refine Below.drew ?_) | (with_reducible refine Below.setCell ?_ ?_ _) | (refine Below.trans ?_ (Below.mono (by with_reducible assumption) ?_)) | go_size))⟩
                    case measure => simp [intOf]; omega
                · have HN := Lib.hid (HN1.out.trans (cleanStep_one HJ.out HQ.out (.inl rfl)))
                  go_wp2_with (at_builtin; refine wpList_app rfl _ _ rfl el_P (HO1.out.alloc _) (ys := [clean1 ⟨pb, 1, 1⟩]) (Lies.one _ _ _ (clean1 ⟨pb, 1, 1⟩) rfl (fun j hj => by rw [List.getElem?_toArray]; rfl)) rfl rfl rfl (by simp only [List.length_cons, List.length_nil, maxLen]; omega) (by simp only [List.length_cons, List.length_nil]; omega) (by simp only [World.size_alloc]; omega) ?_; intro v' w2 hO2 hg2 hat2)
                  have hz2 := hg2.size
                  simp only [World.size_alloc] at hz2
                  go_roundw
                  case rel =>
                    refine ⟨1, by go_num, by omega, by rw [HN.out]; exact hO2, ?_, by omega, fun o => ?_, ?_⟩
                    · rcases hat2 with h | h <;> rw [h]
                      · exact hne
                      · simp only [World.size_alloc]; intro h; injection h; omega
                    · exact (hg2.cell_far _ (by simp only [World.size_alloc]; omega) (Ne.symm hne)).trans ((World.cell?_alloc_lt _ _ _ hPl).trans (hPc o))
                    · exact (hbi.alloc (by omega) _).grown hg2 (by simp only [World.size_alloc]; omega) fun k hk => (HO1.out.lt k hk).1
                  case measure => simp [intOf]; omega
                · cases h3 : (q.state == 0)
                  · have HN := Lib.hid (HN1.out.trans (cleanStep_one HJ.out HQ.out (.inr h3)))
                    go_wp2_with (at_builtin; refine wpList_app rfl _ _ rfl el_P (HO1.out.alloc _) (ys := [clean1 ⟨pb, 1, 2⟩]) (Lies.one _ _ _ (clean1 ⟨pb, 1, 2⟩) rfl (fun j hj => by rw [List.getElem?_toArray]; rfl)) rfl rfl rfl (by simp only [List.length_cons, List.length_nil, maxLen]; omega) (by simp only [List.length_cons, List.length_nil]; omega) (by simp only [World.size_alloc]; omega) ?_; intro v' w2 hO2 hg2 hat2)
                    have hz2 := hg2.size
                    simp only [World.size_alloc] at hz2
                    go_roundw
                    case rel =>
                      refine ⟨1, by go_num, by omega, by rw [HN.out]; exact hO2, ?_, by omega, fun o => ?_, ?_⟩
                      · rcases hat2 with h | h <;> rw [h]
                        · exact hne
                        · simp only [World.size_alloc]; intro h; injection h; omega
                      · exact (hg2.cell_far _ (by simp only [World.size_alloc]; omega) (Ne.symm hne)).trans ((World.cell?_alloc_lt _ _ _ hPl).trans (hPc o))
                      · exact (hbi.alloc (by omega) _).grown hg2 (by simp only [World.size_alloc]; omega) fun k hk => (HO1.out.lt k hk).1
                    case measure => simp [intOf]; omega
                  · have HN := Lib.hid (HN1.out.trans (cleanStep_last HJ.out HQ.out rfl h3))
                    go_wp2
                    go_roundw
                    case rel => exact ⟨0 + 1, by go_num, by omega, by rw [HN.out]; exact HO1.out.set_ (y := addLen q 1) (j := 1) (fun _ => rfl) HQ.out (by decide) rfl, hne, by simpa [World.size_setCell] using hPl, fun o => (World.cell?_setCell_other _ _ _ _ (fun e => by have := congrArg Addr.block e; simp at this; omega)).trans (hPc o), by (repeat' (first | (with_reducible exact Below.refl _ _) | (with_reducible assumption) | (with_reducible refine Below.alloc ?_ ?_ _) | (with_reducible refine Below.drew ?_) | (with_reducible refine Below.setCell ?_ ?_ _) | (refine Below.trans ?_ (Below.mono (by with_reducible assumption) ?_)) | go_size))⟩
                    case measure => simp [intOf]; omega
            · obtain ⟨j, q', hj, hq', hor, hnx⟩ := cellTo_next (ys := ys) hm (Nat.succ_pos m)
              have HN := Lib.hid hnx
              clear hnx
              obtain ⟨zs, hzs⟩ : ∃ zs, zs = cellTo ys ⟨pb, n, ps⟩ (m + 1) := ⟨_, rfl⟩
              rw [← hzs] at hO hzl HB hj hq' HN
              clear hzs
              obtain ⟨A5, c5, rfl, hL5⟩ := hO.lies (fun _ => rfl)
              have HO0 := Lib.hid hO
              clear hO
              obtain ⟨b5, o5, q, rfl, hb5, hq, r0, r1, r2⟩ := hL5.cellsP (k := j) (by omega)
              obtain ⟨g, hgA, hg1, hg2', hgf, _⟩ := HO0.out.at_ hq
              cases hgA
              simp only [Nat.zero_add] at r0 r1 r2
              have hqb := HB.out q (List.mem_of_getElem? hq)
              have HQ := Lib.hid hq
              have hne' : b5 ≠ wo.heap.size := fun h => hne (by rw [h]; rfl)
              have HJ := Lib.hid hj
              have hjb : j ≤ 40 := by omega
              have e1 : IntKind.i64.wrap (q.len + 1) = q.len + 1 := IntWalk.i64_in _ (by omega)
              have e2 : (j : Int) < (j : Int) + 1 := by omega
              rw [hj]
              have HO1 := Lib.hid HO0.out
              clear HO0 hq
              rw [hj] at HO1 hne
              clear hj hL5
              obtain rfl : q' = q := Option.some.inj (hq'.symm.trans HQ.out)
              clear hq'
              obtain rfl | rfl | rfl : ps = 0 ∨ ps = 1 ∨ ps = 2 := by omega
              · have h3 : (q'.state == 0) = true := by rcases hor with h | h
                                                       · cases h
                                                       · exact h
                clear hor
                go_wp2
                go_roundw
                case rel => exact ⟨m + 1 + 1, by go_num, by omega, by rw [HN.out]; exact HO1.out.set_ (y := addLen q' 1) (j := 1) (fun _ => rfl) HQ.out (by decide) rfl, hne, by simpa [World.size_setCell] using hPl, fun o => (World.cell?_setCell_other _ _ _ _ (fun e => by have := congrArg Addr.block e; simp at this; omega)).trans (hPc o), by (repeat' (first | (with_reducible exact Below.refl _ _) | (with_reducible assumption) | (with_reducible refine Below.alloc ?_ ?_ _) | (with_reducible refine Below.drew ?_) | (with_reducible refine Below.setCell ?_ ?_ _) | (refine Below.trans ?_ (Below.mono (by with_reducible assumption) ?_)) | go_size))⟩
                case measure => simp [intOf]; omega
              · clear hor
                go_wp2
                go_roundw
                case rel => exact ⟨m + 1 + 1, by go_num, by omega, by rw [HN.out]; exact HO1.out.set_ (y := addLen q' 1) (j := 1) (fun _ => rfl) HQ.out (by decide) rfl, hne, by simpa [World.size_setCell] using hPl, fun o => (World.cell?_setCell_other _ _ _ _ (fun e => by have := congrArg Addr.block e; simp at this; omega)).trans (hPc o), by (repeat' (first | (with_reducible exact Below.refl _ _) | (with_reducible assumption) | (with_reducible refine Below.alloc ?_ ?_ _) | (with_reducible refine Below.drew ?_) | (with_reducible refine Below.setCell ?_ ?_ _) | (refine Below.trans ?_ (Below.mono (by with_reducible assumption) ?_)) | go_size))⟩
                case measure => simp [intOf]; omega
              · have h3 : (q'.state == 0) = true := by rcases hor with h | h
                                                       · cases h
                                                       · exact h
                clear hor
                go_wp2
                go_roundw
                case rel => exact ⟨m + 1 + 1, by go_num, by omega, by rw [HN.out]; exact HO1.out.set_ (y := addLen q' 1) (j := 1) (fun _ => rfl) HQ.out (by decide) rfl, hne, by simpa [World.size_setCell] using hPl, fun o => (World.cell?_setCell_other _ _ _ _ (fun e => by have := congrArg Addr.block e; simp at this; omega)).trans (hPc o), by (repeat' (first | (with_reducible exact Below.refl _ _) | (with_reducible assumption) | (with_reducible refine Below.alloc ?_ ?_ _) | (with_reducible refine Below.drew ?_) | (with_reducible refine Below.setCell ?_ ?_ _) | (refine Below.trans ?_ (Below.mono (by with_reducible assumption) ?_)) | go_size))⟩
                case measure => simp [intOf]; omega
          · obtain rfl : m = n := by omega
            have HE := Lib.hid ((cellTo_all (ys := ys) (p := ⟨pb, m, ps⟩) rfl hm'.2.1).trans (HS.out _ HX.out).symm)
            go_wp2
            go_roundw
            case rel => exact ⟨k + 1, by go_num, by omega, by rw [← HE.out]; exact hO, by (repeat' (first | (with_reducible exact Below.refl _ _) | (with_reducible assumption) | (with_reducible refine Below.alloc ?_ ?_ _) | (with_reducible refine Below.drew ?_) | (with_reducible refine Below.setCell ?_ ?_ _) | (refine Below.trans ?_ (Below.mono (by with_reducible assumption) ?_)) | go_size))⟩
            case measure => simp [intOf]; omega
      · obtain rfl : k = xs.length := by omega
        go_wp2
        go_returns
        rw [H0.out]
        exact RetOwn.mk (fun _ => rfl) (by rw [← HYS.out]; exact HO.out) (by (repeat' (first | (with_reducible exact Below.refl _ _) | (with_reducible assumption) | (with_reducible refine Below.alloc ?_ ?_ _) | (with_reducible refine Below.drew ?_) | (with_reducible refine Below.setCell ?_ ?_ _) | (refine Below.trans ?_ (Below.mono (by with_reducible assumption) ?_)) | go_size)))
  · have H := Lib.hid (show heapClean xs = ([], heapE xs) by unfold heapClean; rw [if_neg (show ¬ heapE xs = 0 by simpa using he)])
    rw [H.out]
    go_enter Try.func18, Try.ntmps18
    go_wp2_with (go_at_call 46; (with_reducible refine (r_HeapCheck A c xs _ hL).mono ?_); intro e w1 hr; obtain ⟨rfl, hb, hc, hf, hz⟩ := hr.use; (try simp only [World.size_alloc, World.size_setCell, World.size_drew] at hz); clear hr)
    go_returns
    exact RetOwn.mk (fun _ => rfl) Own.nil_ (by (repeat' (first | (with_reducible exact Below.refl _ _) | (with_reducible assumption) | (with_reducible refine Below.alloc ?_ ?_ _) | (with_reducible refine Below.drew ?_) | (with_reducible refine Below.setCell ?_ ?_ _) | (refine Below.trans ?_ (Below.mono (by with_reducible assumption) ?_)) | go_size)))
end Go.Proofs.Ytmalaomcolgfcaa
