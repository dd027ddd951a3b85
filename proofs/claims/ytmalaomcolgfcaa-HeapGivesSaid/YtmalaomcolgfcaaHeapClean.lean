/- The contracts of heap.Clean and of its reference: each returns a plain function of its pieces. Conditions: none. -/
import Derived.Test.YtmalaomcolgfcaaHeapOps
import Derived.StillTailTactics
namespace Go.Proofs.Ytmalaomcolgfcaa
open Go.RowKit
set_option linter.unusedVariables false
set_option linter.unusedSimpArgs false
set_option maxRecDepth 100000

theorem heapGo_may {l : List Piece} : ∀ {q : Option Piece}, heapGo q l = 0 → ∀ p ∈ l, mayP p = true := by
  induction l with
  | nil => intro q _ p hp; cases hp
  | cons x l ih =>
    intro q h p hp
    have key : mayP x = true ∧ heapGo (some x) l = 0 := by
      cases hx : mayP x
      · simp [heapGo, hx] at h
      · refine ⟨rfl, ?_⟩
        cases q with
        | none => simpa [heapGo, hx] using h
        | some r =>
          cases hb : badP r x
          · simpa [heapGo, hx, hb] using h
          · simp [heapGo, hx, hb] at h
    rcases List.mem_cons.1 hp with rfl | hp
    · exact key.1
    · exact ih key.2 p hp
theorem heapE_may {l : List Piece} (h : heapE l = 0) {i : Nat} {p : Piece} (hp : l[i]? = some p) : mayP p = true := by
  unfold heapE at h
  split at h
  · cases h
  · exact heapGo_may h p (List.mem_of_getElem? hp)

theorem wp_region_tail {P : Program} {id : Nat} {Q : Exit → Act → World → Prop} {a : Act} {w : World} {l : List Oper} (n : Nat) (hm : P.follows .mixedOrders = true) (hB : Region.lexTailB .any l.toArray n = true)
    (h : wpStill P l.toArray w.drew (fun a' => wpList P l.toArray Q (l.drop n) a' w.drew) (l.take n) a) : (Code.region id l.toArray true).wp P Q a w := wp_region_still_tail n hm hB h
/-- what was given back is free -/
def clean1 (p : Piece) : Piece := if (p.state == 2) = true then { p with state := 0 } else p
def addLen (q : Piece) (n : Int) : Piece := { q with len := q.len + n }
def cleanStep (out : List Piece) (p : Piece) : List Piece :=
  match out[out.length - 1]? with
  | some q => if ((clean1 p).state == 0) = true ∧ (q.state == 0) = true then out.set (out.length - 1) (addLen q p.len) else out ++ [clean1 p]
  | none => out ++ [clean1 p]
def cleanL (l : List Piece) (k : Nat) : List Piece := (l.take k).foldl cleanStep []
theorem cleanL_succ {l : List Piece} {k : Nat} {p : Piece} (h : l[k]? = some p) : cleanL l (k + 1) = cleanStep (cleanL l k) p := by
  obtain ⟨hk, he⟩ := List.getElem?_eq_some_iff.1 h
  unfold cleanL
  rw [List.take_succ_eq_append_getElem hk, List.foldl_append, he]
  rfl
theorem cleanStep_nil (p : Piece) : cleanStep [] p = [clean1 p] := rfl
theorem cleanStep_last {out : List Piece} {p q : Piece} {j : Nat} (hl : out.length = j + 1) (hq : out[j]? = some q) (h1 : ((clean1 p).state == 0) = true) (h2 : (q.state == 0) = true) : cleanStep out p = out.set j (addLen q p.len) := by
  unfold cleanStep
  rw [hl, Nat.add_sub_cancel, hq]
  simp only [h1, h2, and_self, if_true]
theorem cleanStep_one {out : List Piece} {p q : Piece} {j : Nat} (hl : out.length = j + 1) (hq : out[j]? = some q) (h : ((clean1 p).state == 0) = false ∨ (q.state == 0) = false) : cleanStep out p = out ++ [clean1 p] := by
  unfold cleanStep
  rw [hl, Nat.add_sub_cancel, hq]
  rcases h with h | h <;> simp [h]
theorem clean1_len (p : Piece) : (clean1 p).len = p.len := by unfold clean1; split <;> rfl
theorem cleanStep_length (out : List Piece) (p : Piece) : (cleanStep out p).length ≤ out.length + 1 := by
  unfold cleanStep
  split
  · split <;> simp
  · simp
theorem cleanL_length (l : List Piece) (k : Nat) : (cleanL l k).length ≤ k := by
  induction k with
  | zero => simp [cleanL]
  | succ k ih =>
    cases h : l[k]? with
    | none =>
      have : l.length ≤ k := by simpa using h
      have e : cleanL l (k + 1) = cleanL l k := by unfold cleanL; rw [List.take_of_length_le (by omega), List.take_of_length_le this]
      rw [e]; omega
    | some p =>
      rw [cleanL_succ h]
      have := cleanStep_length (cleanL l k) p
      omega
/-- the lengths add up to no more than 400 a piece -/
theorem cleanL_len {l : List Piece} (hm : ∀ (i : Nat) p, l[i]? = some p → mayP p = true) (k : Nat) : ∀ q ∈ cleanL l k, 1 ≤ q.len ∧ q.len ≤ 400 * k := by
  induction k with
  | zero => intro q hq; simp [cleanL] at hq
  | succ k ih =>
    intro q hq
    cases h : l[k]? with
    | none =>
      have : l.length ≤ k := by simpa using h
      have e : cleanL l (k + 1) = cleanL l k := by unfold cleanL; rw [List.take_of_length_le (by omega), List.take_of_length_le this]
      rw [e] at hq
      have := ih q hq
      omega
    | some p =>
      have hp := mayP_iff.1 (hm k p h)
      rw [cleanL_succ h] at hq
      have happ : q ∈ cleanL l k ++ [clean1 p] → 1 ≤ q.len ∧ q.len ≤ 400 * ((k + 1 : Nat) : Int) := fun hq => by
        rcases List.mem_append.1 hq with hq | hq
        · have := ih q hq; omega
        · rw [List.mem_singleton.1 hq, clean1_len]; omega
      unfold cleanStep at hq
      split at hq
      · rename_i r hr
        have hr' := ih r (List.mem_of_getElem? hr)
        split at hq
        · rcases List.mem_or_eq_of_mem_set hq with hq | rfl
          · have := ih q hq; omega
          · show 1 ≤ r.len + p.len ∧ r.len + p.len ≤ _
            omega
        · exact happ hq
      · exact happ hq
def heapClean (l : List Piece) : List Piece × Int := if heapE l = 0 then (cleanL l l.length, 0) else ([], heapE l)

set_option maxHeartbeats 1000000 in
set_option maxRecDepth 100000 in
theorem c_heap_Clean (A : Option Addr) (c : Nat) (xs : List Piece) (w : World) (hL : Lies encP 3 w w.heap.size A xs) :
    Calls Try.prog 17 #[.slice A xs.length c] w (RetOwn encP 31 3 w (heapClean xs).1 fun v => .tuple #[v, .int .i64 (heapClean xs).2]) := by
  cases he : (heapE xs != 0)
  · have he' : heapE xs = 0 := by simpa using he
    have hlen := heapE_len he'
    have H0 := Lib.hid (show heapClean xs = (cleanL xs xs.length, 0) by simp [heapClean, he'])
    have HM := Lib.hid (fun (i : Nat) p (h : xs[i]? = some p) => heapE_may he' h)
    clear he'
    go_enter Try.func17, Try.ntmps17
    go_wp2_with (go_at_call 20; (with_reducible refine (c_heap_Check A c xs _ hL).mono ?_); intro e w1 hr; obtain ⟨rfl, hb, hc, hf, hz⟩ := hr.use; (try simp only [World.size_alloc, World.size_setCell, World.size_drew] at hz); clear hr)
    go_loopw [5, 7, 8, 16] (fun v5 _ _ v wr => ∃ k : Nat, v = .int .i64 k ∧ k ≤ xs.length ∧ Own encP 31 3 wr w.heap.size v5 (cleanL xs k) ∧ Below w.heap.size w wr) (fun _ _ _ v _ => (xs.length - intOf v).toNat)
    case atStart => exact ⟨0, rfl, by omega, Own.nil_, by (repeat' (first | (with_reducible exact Below.refl _ _) | (with_reducible assumption) | (with_reducible refine Below.alloc ?_ ?_ _) | (with_reducible refine Below.drew ?_) | (with_reducible refine Below.setCell ?_ ?_ _) | (refine Below.trans ?_ (Below.mono (by with_reducible assumption) ?_)) | go_size))⟩
    case round =>
      obtain ⟨k, rfl, hk, hO, hbw⟩ := hrel
      have hbz := hbw.size
      have hyk := cleanL_length xs k
      have hyl := cleanL_len HM.out k
      have HS := Lib.hid (fun p (h : xs[k]? = some p) => cleanL_succ h)
      obtain ⟨ys, hys⟩ : ∃ ys, ys = cleanL xs k := ⟨_, rfl⟩
      rw [← hys] at hO hyk hyl HS
      have HYS := Lib.hid hys
      clear hys
      have HY := Lib.hid hyl
      clear hyl
      obtain ⟨A5, c5, rfl, hL5⟩ := hO.lies (fun _ => rfl)
      rcases Nat.lt_or_ge k xs.length with hlt | hge
      · obtain ⟨b, o, p, rfl, hb, hp, q0, q1, q2⟩ := (hL.below hbw).cellsP hlt
        have hm' := mayP_iff.1 (HM.out k p hp)
        have HX := Lib.hid hp
        clear hp
        have HO := Lib.hid hO
        clear hO
        cases h1 : (p.state == 2)
        · have HC := Lib.hid (show clean1 p = p from if_neg (by simp [h1]))
          rcases Nat.eq_zero_or_pos ys.length with h0 | h0
          · obtain rfl : ys = [] := List.eq_nil_of_length_eq_zero h0
            clear h0
            have HN := Lib.hid ((HS.out p HX.out).trans (cleanStep_nil p))
            go_wp2_with (at_builtin; refine wpList_app rfl _ _ rfl el_P ((HO.out.alloc _).alloc _) (ys := [clean1 p]) (Lies.one _ _ _ (clean1 p) (by simp) (fun j hj => by rw [HC.out]; simp only [encP, List.getElem?_toArray])) rfl rfl rfl (by simp only [List.length_cons, List.length_nil, maxLen]; omega) (by simp only [List.length_cons, List.length_nil]; omega) (by simp only [World.size_alloc]; omega) ?_; intro v' w2 hO2 hg2 hat2)
            go_roundw
            case rel => exact ⟨k + 1, by go_num, by omega, by rw [HN.out]; exact hO2, ((hbw.alloc (by omega) _).alloc (by simp only [World.size_alloc]; omega) _).grown hg2 (by simp only [World.size_alloc]; omega) fun k hk => (HO.out.lt k hk).1⟩
            case measure => simp [intOf]; omega
          · obtain ⟨j, hj⟩ : ∃ j, ys.length = j + 1 := ⟨ys.length - 1, by omega⟩
            clear h0
            obtain ⟨b5, o5, q, rfl, hb5, hq, r0, r1, r2⟩ := hL5.cellsP (k := j) (by omega)
            obtain ⟨g, hgA, hg1, hg2', hgf, _⟩ := HO.out.at_ hq
            cases hgA
            simp only [Nat.zero_add] at r0 r1 r2
            have hqb := HY.out q (List.mem_of_getElem? hq)
            have HQ := Lib.hid hq
            clear hq
            have HJ := Lib.hid hj
            rw [hj]
            have HO' := Lib.hid HO.out
            clear HO
            rw [hj] at HO'
            have hj' : j + 1 ≤ k := by omega
            clear hj hL5
            cases h2 : (p.state == 0)
            · have HN := Lib.hid ((HS.out p HX.out).trans (cleanStep_one HJ.out HQ.out (Or.inl (by rw [HC.out]; exact h2))))
              go_wp2_with (at_builtin; refine wpList_app rfl _ _ rfl el_P ((HO'.out.alloc _).alloc _) (ys := [clean1 p]) (Lies.one _ _ _ (clean1 p) (by simp) (fun j hj => by rw [HC.out]; simp only [encP, List.getElem?_toArray])) rfl rfl rfl (by simp only [List.length_cons, List.length_nil, maxLen]; omega) (by simp only [List.length_cons, List.length_nil]; omega) (by simp only [World.size_alloc]; omega) ?_; intro v' w2 hO2 hg2 hat2)
              go_roundw
              case rel => exact ⟨k + 1, by go_num, by omega, by rw [HN.out]; exact hO2, ((hbw.alloc (by omega) _).alloc (by simp only [World.size_alloc]; omega) _).grown hg2 (by simp only [World.size_alloc]; omega) fun k hk => (HO'.out.lt k hk).1⟩
              case measure => simp [intOf]; omega
            · cases h3 : (q.state == 0)
              · have HN := Lib.hid ((HS.out p HX.out).trans (cleanStep_one HJ.out HQ.out (Or.inr h3)))
                go_wp2_with (at_builtin; refine wpList_app rfl _ _ rfl el_P ((HO'.out.alloc _).alloc _) (ys := [clean1 p]) (Lies.one _ _ _ (clean1 p) (by simp) (fun j hj => by rw [HC.out]; simp only [encP, List.getElem?_toArray])) rfl rfl rfl (by simp only [List.length_cons, List.length_nil, maxLen]; omega) (by simp only [List.length_cons, List.length_nil]; omega) (by simp only [World.size_alloc]; omega) ?_; intro v' w2 hO2 hg2 hat2)
                go_roundw
                case rel => exact ⟨k + 1, by go_num, by omega, by rw [HN.out]; exact hO2, ((hbw.alloc (by omega) _).alloc (by simp only [World.size_alloc]; omega) _).grown hg2 (by simp only [World.size_alloc]; omega) fun k hk => (HO'.out.lt k hk).1⟩
                case measure => simp [intOf]; omega
              · have HN := Lib.hid ((HS.out p HX.out).trans (cleanStep_last HJ.out HQ.out (by rw [HC.out]; exact h2) h3))
                have e1 : IntKind.i64.wrap (q.len + p.len) = q.len + p.len := IntWalk.i64_in _ (by omega)
                have e2 : (j : Int) < (j : Int) + 1 := by omega
                go_wp2
                (refine wp_region_tail 10 (by kernel_rfl) (by kernel_rfl) ?_; simp only [List.take_succ_cons, List.take_zero, List.drop_succ_cons, List.drop_zero]; (repeat still_step); refine wpStill_nil ?_)
                go_wp2
                go_roundw
                case rel => exact ⟨k + 1, by go_num, by omega, by rw [HN.out]; exact ((HO'.out.set_ (y := addLen q p.len) (j := 1) (fun _ => rfl) HQ.out (by decide) rfl).alloc _).drew, by (repeat' (first | (with_reducible exact Below.refl _ _) | (with_reducible assumption) | (with_reducible refine Below.alloc ?_ ?_ _) | (with_reducible refine Below.drew ?_) | (with_reducible refine Below.setCell ?_ ?_ _) | (refine Below.trans ?_ (Below.mono (by with_reducible assumption) ?_)) | go_size))⟩
                case measure => simp [intOf]; omega
        · have HC := Lib.hid (show clean1 p = ⟨p.base, p.len, 0⟩ from if_pos h1)
          rcases Nat.eq_zero_or_pos ys.length with h0 | h0
          · obtain rfl : ys = [] := List.eq_nil_of_length_eq_zero h0
            clear h0
            have HN := Lib.hid ((HS.out p HX.out).trans (cleanStep_nil p))
            go_wp2_with (at_builtin; refine wpList_app rfl _ _ rfl el_P ((HO.out.alloc _).alloc _) (ys := [clean1 p]) (Lies.one _ _ _ (clean1 p) (by simp) (fun j hj => by rw [HC.out]; simp only [encP, List.getElem?_toArray])) rfl rfl rfl (by simp only [List.length_cons, List.length_nil, maxLen]; omega) (by simp only [List.length_cons, List.length_nil]; omega) (by simp only [World.size_alloc]; omega) ?_; intro v' w2 hO2 hg2 hat2)
            go_roundw
            case rel => exact ⟨k + 1, by go_num, by omega, by rw [HN.out]; exact hO2, ((hbw.alloc (by omega) _).alloc (by simp only [World.size_alloc]; omega) _).grown hg2 (by simp only [World.size_alloc]; omega) fun k hk => (HO.out.lt k hk).1⟩
            case measure => simp [intOf]; omega
          · obtain ⟨j, hj⟩ : ∃ j, ys.length = j + 1 := ⟨ys.length - 1, by omega⟩
            clear h0
            obtain ⟨b5, o5, q, rfl, hb5, hq, r0, r1, r2⟩ := hL5.cellsP (k := j) (by omega)
            obtain ⟨g, hgA, hg1, hg2', hgf, _⟩ := HO.out.at_ hq
            cases hgA
            simp only [Nat.zero_add] at r0 r1 r2
            have hqb := HY.out q (List.mem_of_getElem? hq)
            have HQ := Lib.hid hq
            clear hq
            have HJ := Lib.hid hj
            rw [hj]
            have HO' := Lib.hid HO.out
            clear HO
            rw [hj] at HO'
            have hj' : j + 1 ≤ k := by omega
            clear hj hL5
            cases h3 : (q.state == 0)
            · have HN := Lib.hid ((HS.out p HX.out).trans (cleanStep_one HJ.out HQ.out (Or.inr h3)))
              go_wp2_with (at_builtin; refine wpList_app rfl _ _ rfl el_P ((HO'.out.alloc _).alloc _) (ys := [clean1 p]) (Lies.one _ _ _ (clean1 p) (by simp) (fun j hj => by rw [HC.out]; simp only [encP, List.getElem?_toArray])) rfl rfl rfl (by simp only [List.length_cons, List.length_nil, maxLen]; omega) (by simp only [List.length_cons, List.length_nil]; omega) (by simp only [World.size_alloc]; omega) ?_; intro v' w2 hO2 hg2 hat2)
              go_roundw
              case rel => exact ⟨k + 1, by go_num, by omega, by rw [HN.out]; exact hO2, ((hbw.alloc (by omega) _).alloc (by simp only [World.size_alloc]; omega) _).grown hg2 (by simp only [World.size_alloc]; omega) fun k hk => (HO'.out.lt k hk).1⟩
              case measure => simp [intOf]; omega
            · have HN := Lib.hid ((HS.out p HX.out).trans (cleanStep_last HJ.out HQ.out (by rw [HC.out]; rfl) h3))
              have e1 : IntKind.i64.wrap (q.len + p.len) = q.len + p.len := IntWalk.i64_in _ (by omega)
              have e2 : (j : Int) < (j : Int) + 1 := by omega
              go_wp2
              (refine wp_region_tail 10 (by kernel_rfl) (by kernel_rfl) ?_; simp only [List.take_succ_cons, List.take_zero, List.drop_succ_cons, List.drop_zero]; (repeat still_step); refine wpStill_nil ?_)
              go_wp2
              go_roundw
              case rel => exact ⟨k + 1, by go_num, by omega, by rw [HN.out]; exact ((HO'.out.set_ (y := addLen q p.len) (j := 1) (fun _ => rfl) HQ.out (by decide) rfl).alloc _).drew, by (repeat' (first | (with_reducible exact Below.refl _ _) | (with_reducible assumption) | (with_reducible refine Below.alloc ?_ ?_ _) | (with_reducible refine Below.drew ?_) | (with_reducible refine Below.setCell ?_ ?_ _) | (refine Below.trans ?_ (Below.mono (by with_reducible assumption) ?_)) | go_size))⟩
              case measure => simp [intOf]; omega
      · obtain rfl : k = xs.length := by omega
        have HO := Lib.hid hO
        clear hO
        go_wp2
        go_returns
        rw [H0.out]
        exact RetOwn.mk (fun _ => rfl) (by rw [← HYS.out]; exact HO.out) (by (repeat' (first | (with_reducible exact Below.refl _ _) | (with_reducible assumption) | (with_reducible refine Below.alloc ?_ ?_ _) | (with_reducible refine Below.drew ?_) | (with_reducible refine Below.setCell ?_ ?_ _) | (refine Below.trans ?_ (Below.mono (by with_reducible assumption) ?_)) | go_size)))
  · have H := Lib.hid (show heapClean xs = ([], heapE xs) by unfold heapClean; rw [if_neg (show ¬ heapE xs = 0 by simpa using he)])
    rw [H.out]
    go_enter Try.func17, Try.ntmps17
    go_wp2_with (go_at_call 20; (with_reducible refine (c_heap_Check A c xs _ hL).mono ?_); intro e w1 hr; obtain ⟨rfl, hb, hc, hf, hz⟩ := hr.use; (try simp only [World.size_alloc, World.size_setCell, World.size_drew] at hz); clear hr)
    go_returns
    exact RetOwn.mk (fun _ => rfl) Own.nil_ (by (repeat' (first | (with_reducible exact Below.refl _ _) | (with_reducible assumption) | (with_reducible refine Below.alloc ?_ ?_ _) | (with_reducible refine Below.drew ?_) | (with_reducible refine Below.setCell ?_ ?_ _) | (refine Below.trans ?_ (Below.mono (by with_reducible assumption) ?_)) | go_size)))
end Go.Proofs.Ytmalaomcolgfcaa
