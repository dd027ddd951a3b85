/- The contracts of heap.Back and of its reference: each returns a plain function of its pieces. Conditions: the numbers are numbers of 64 bits. -/
import Derived.Test.YtmalaomcolgfcaaOwn
import Derived.Test.YtmalaomcolgfcaaEqP
namespace Go.Proofs.Ytmalaomcolgfcaa
open Go.RowKit
set_option linter.unusedVariables false
set_option linter.unusedSimpArgs false
set_option maxRecDepth 100000

def backQ (base : Int) (p : Piece) : Bool := (p.state == 1) && (p.base == base)
def back2 (p : Piece) : Piece := { p with state := 2 }
/-- Back: the pieces and an error -/
def heapBack (l : List Piece) (base : Int) : List Piece × Int :=
  if heapE l = 0 then (if idxP (backQ base) l < 0 then ([], 7) else (l.modify (idxP (backQ base) l).toNat back2, 0)) else ([], heapE l)
theorem heapBack_no {l : List Piece} {base : Int} (h : ¬ heapE l = 0) : heapBack l base = ([], heapE l) := by unfold heapBack; rw [if_neg h]
theorem heapBack_none {l : List Piece} {base : Int} (h : heapE l = 0) (hi : idxP (backQ base) l = -1) : heapBack l base = ([], 7) := by unfold heapBack; rw [if_pos h, hi]; rfl
theorem heapBack_some {l : List Piece} {base : Int} {i : Nat} {x : Piece} (h : heapE l = 0) (hi : idxP (backQ base) l = i) (hx : l[i]? = some x) : heapBack l base = (l.set i (back2 x), 0) := by
  unfold heapBack; rw [if_pos h, hi, if_neg (by omega)]
  congr 1
  show l.modify i back2 = l.set i (back2 x)
  haveI : Inhabited Piece := ⟨⟨0, 0, 0⟩⟩
  rw [List.modify_eq_set, hx]
  rfl
theorem heapE_len {l : List Piece} (h : heapE l = 0) : l.length ≤ 30 := by
  unfold heapE at h
  split at h
  · cases h
  · omega

theorem c_heap_Back1 (x : Piece) (B : Nat) (bs : Int) (W : World) (hB0 : B < W.heap.size) (hc0 : W.cell? ⟨B, 0, none⟩ = some (.int .i64 bs)) :
    Calls Try.prog 62 #[.agg #[.int .i64 x.base, .int .i64 x.len, .int .i64 x.state], .pointer (some ⟨B, 0, none⟩)] W (Ret (.bool (backQ bs x)) W) := by
  cases h1 : (x.state == 1)
  · have H := Lib.hid (show backQ bs x = false by simp [backQ, h1])
    go_enter Try.func62, Try.ntmps62
    go_wp2
    go_returns
    exact Ret.bool H.out.symm (by (repeat' (first | (with_reducible exact Below.refl _ _) | (with_reducible assumption) | (with_reducible refine Below.alloc ?_ ?_ _) | (with_reducible refine Below.drew ?_) | (with_reducible refine Below.setCell ?_ ?_ _) | (refine Below.trans ?_ (Below.mono (by with_reducible assumption) ?_)) | go_size)))
  · cases h2 : (x.base == bs)
    · have H := Lib.hid (show backQ bs x = false by simp [backQ, h2])
      go_enter Try.func62, Try.ntmps62
      go_wp2
      go_returns
      exact Ret.bool H.out.symm (by (repeat' (first | (with_reducible exact Below.refl _ _) | (with_reducible assumption) | (with_reducible refine Below.alloc ?_ ?_ _) | (with_reducible refine Below.drew ?_) | (with_reducible refine Below.setCell ?_ ?_ _) | (refine Below.trans ?_ (Below.mono (by with_reducible assumption) ?_)) | go_size)))
    · have H := Lib.hid (show backQ bs x = true by simp [backQ, h1, h2])
      go_enter Try.func62, Try.ntmps62
      go_wp2
      go_returns
      exact Ret.bool H.out.symm (by (repeat' (first | (with_reducible exact Below.refl _ _) | (with_reducible assumption) | (with_reducible refine Below.alloc ?_ ?_ _) | (with_reducible refine Below.drew ?_) | (with_reducible refine Below.setCell ?_ ?_ _) | (refine Below.trans ?_ (Below.mono (by with_reducible assumption) ?_)) | go_size)))
theorem c_IndexFunc_back (A : Option Addr) (c : Nat) (xs : List Piece) (bs r : Int) (B : Nat) (w : World) (hr : idxP (backQ bs) xs = r) (hn : xs.length ≤ 30) (hB0 : B < w.heap.size) (hc0 : w.cell? ⟨B, 0, none⟩ = some (.int .i64 bs)) (hL : Lies encP 3 w w.heap.size A xs) :
    Calls Try.prog 61 #[.slice A xs.length c, .func (.func 62) #[] #[.pointer (some ⟨B, 0, none⟩)]] w (Ret (.int .i64 r) w) := by
  rw [← hr]
  exact c_IndexFunc_P 62 #[.pointer (some ⟨B, 0, none⟩)] (backQ bs) (enters_of Try.func62 (by kernel_rfl) rfl) A c xs w (by unfold maxLen; omega) hL fun x W hb =>
    c_heap_Back1 x B bs W (Nat.lt_of_lt_of_le hB0 hb.size) ((hb.cell (p := ⟨B, 0, none⟩) hB0).trans hc0)
set_option maxHeartbeats 1000000 in
theorem c_heap_Back (A : Option Addr) (c : Nat) (xs : List Piece) (bs : Int) (w : World) (hL : Lies encP 3 w w.heap.size A xs) :
    Calls Try.prog 30 #[.slice A xs.length c, .int .i64 bs] w (RetOwn encP 31 3 w (heapBack xs bs).1 fun v => .tuple #[v, .int .i64 (heapBack xs bs).2]) := by
  cases he : (heapE xs != 0)
  · have he' : heapE xs = 0 := by simpa using he
    have hlen := heapE_len he'
    have HE := Lib.hid he'
    clear he'
    rcases idxFrom_cases (backQ bs) xs 0 with hi | ⟨i, hi⟩
    · rw [heapBack_none HE.out hi]
      have HI := Lib.hid (show idxP (backQ bs) xs = -1 from hi)
      clear hi
      go_enter Try.func30, Try.ntmps30
      go_wp2_with (first | (go_at_call 20; (with_reducible refine (c_heap_Check A c xs (w.alloc (.cells #[.int .i64 bs] 3)) (hL.below ((Below.refl _ _).alloc (Nat.le_refl _) _) |>.more (by simp [World.size_alloc]))).mono ?_); intro e w1 hr; obtain ⟨rfl, hb, hc, hf, hz⟩ := hr.use; (try simp only [World.size_alloc, World.size_setCell, World.size_drew] at hz); clear hr; have c0 := fun o => hc (w.heap.size) o (by (try simp only [World.size_alloc, World.size_setCell, World.size_drew]); omega); have f0 := fun o => hf (w.heap.size) o (by (try simp only [World.size_alloc, World.size_setCell, World.size_drew]); omega); have z0 : w.heap.size < w1.heap.size := (by (try simp only [World.size_alloc, World.size_setCell, World.size_drew]); omega); clear hc hf; simp only [go_sem, World.size_alloc, *] at c0 f0) | (go_at_call 61; (with_reducible refine (c_IndexFunc_back A c xs bs _ w.heap.size w1 HI.out hlen z0 (by simpa using c0 0) ((hL.below (by (repeat' (first | (with_reducible exact Below.refl _ _) | (with_reducible assumption) | (with_reducible refine Below.alloc ?_ ?_ _) | (with_reducible refine Below.drew ?_) | (with_reducible refine Below.setCell ?_ ?_ _) | (refine Below.trans ?_ (Below.mono (by with_reducible assumption) ?_)) | go_size)))).more (by omega))).mono ?_); intro e w2 hr; obtain ⟨rfl, hb, hc, hf, hz⟩ := hr.use; (try simp only [World.size_alloc, World.size_setCell, World.size_drew] at hz); clear hr; have c0 := fun o => hc (w.heap.size) o (by (try simp only [World.size_alloc, World.size_setCell, World.size_drew]); omega); have f0 := fun o => hf (w.heap.size) o (by (try simp only [World.size_alloc, World.size_setCell, World.size_drew]); omega); have z0 : w.heap.size < w2.heap.size := (by (try simp only [World.size_alloc, World.size_setCell, World.size_drew]); omega); clear hc hf; simp only [go_sem, World.size_alloc, *] at c0 f0))
      go_returns
      exact RetOwn.mk (fun _ => rfl) Own.nil_ (by (repeat' (first | (with_reducible exact Below.refl _ _) | (with_reducible assumption) | (with_reducible refine Below.alloc ?_ ?_ _) | (with_reducible refine Below.drew ?_) | (with_reducible refine Below.setCell ?_ ?_ _) | (refine Below.trans ?_ (Below.mono (by with_reducible assumption) ?_)) | go_size)))
    · obtain ⟨hilt, x, hx, _⟩ := idxFrom_lt hi
      rw [heapBack_some HE.out hi hx]
      have HI := Lib.hid (show idxP (backQ bs) xs = i from hi)
      have HX := Lib.hid hx
      clear hi hx
      go_enter Try.func30, Try.ntmps30
      go_wp2_with (first | (go_at_call 20; (with_reducible refine (c_heap_Check A c xs (w.alloc (.cells #[.int .i64 bs] 3)) (hL.below ((Below.refl _ _).alloc (Nat.le_refl _) _) |>.more (by simp [World.size_alloc]))).mono ?_); intro e w1 hr; obtain ⟨rfl, hb, hc, hf, hz⟩ := hr.use; (try simp only [World.size_alloc, World.size_setCell, World.size_drew] at hz); clear hr; have c0 := fun o => hc (w.heap.size) o (by (try simp only [World.size_alloc, World.size_setCell, World.size_drew]); omega); have f0 := fun o => hf (w.heap.size) o (by (try simp only [World.size_alloc, World.size_setCell, World.size_drew]); omega); have z0 : w.heap.size < w1.heap.size := (by (try simp only [World.size_alloc, World.size_setCell, World.size_drew]); omega); clear hc hf; simp only [go_sem, World.size_alloc, *] at c0 f0) | (go_at_call 61; (with_reducible refine (c_IndexFunc_back A c xs bs _ w.heap.size w1 HI.out hlen z0 (by simpa using c0 0) ((hL.below (by (repeat' (first | (with_reducible exact Below.refl _ _) | (with_reducible assumption) | (with_reducible refine Below.alloc ?_ ?_ _) | (with_reducible refine Below.drew ?_) | (with_reducible refine Below.setCell ?_ ?_ _) | (refine Below.trans ?_ (Below.mono (by with_reducible assumption) ?_)) | go_size)))).more (by omega))).mono ?_); intro e w2 hr; obtain ⟨rfl, hb, hc, hf, hz⟩ := hr.use; (try simp only [World.size_alloc, World.size_setCell, World.size_drew] at hz); clear hr; have c0 := fun o => hc (w.heap.size) o (by (try simp only [World.size_alloc, World.size_setCell, World.size_drew]); omega); have f0 := fun o => hf (w.heap.size) o (by (try simp only [World.size_alloc, World.size_setCell, World.size_drew]); omega); have z0 : w.heap.size < w2.heap.size := (by (try simp only [World.size_alloc, World.size_setCell, World.size_drew]); omega); clear hc hf; simp only [go_sem, World.size_alloc, *] at c0 f0) | (go_at_call 63; (with_reducible refine (c_Clone_P A c xs w2 (by unfold maxLen; omega) (by omega) ((hL.below (by (repeat' (first | (with_reducible exact Below.refl _ _) | (with_reducible assumption) | (with_reducible refine Below.alloc ?_ ?_ _) | (with_reducible refine Below.drew ?_) | (with_reducible refine Below.setCell ?_ ?_ _) | (refine Below.trans ?_ (Below.mono (by with_reducible assumption) ?_)) | go_size)))).more (by omega))).mono ?_); rintro e w3 ⟨A3, k3, rfl, hO3, hL3, hb3⟩; obtain ⟨g, rfl, hg1, hg2, hgf, _⟩ := hO3.at_ HX.out; have HO := Lib.hid hO3; clear hO3; obtain ⟨b3, o3, p3, hA3, hb30, hp3, q0, q1, q2⟩ := hL3.cellsP hilt; cases hA3; simp only [Nat.zero_add] at q0 q1 q2; have HP3 := Lib.hid hp3; clear hp3))
      go_returns
      exact RetOwn.mk (fun _ => rfl) ((HO.out.set_ (y := back2 x) (j := 2) (fun _ => rfl) HX.out (by decide) rfl).base_mono (by omega)) (by (repeat' (first | (with_reducible exact Below.refl _ _) | (with_reducible assumption) | (with_reducible refine Below.alloc ?_ ?_ _) | (with_reducible refine Below.drew ?_) | (with_reducible refine Below.setCell ?_ ?_ _) | (refine Below.trans ?_ (Below.mono (by with_reducible assumption) ?_)) | go_size)))
  · have H := Lib.hid (heapBack_no (base := bs) (show ¬ heapE xs = 0 by simpa using he))
    rw [H.out]
    go_enter Try.func30, Try.ntmps30
    go_wp2_with (go_at_call 20; (with_reducible refine (c_heap_Check A c xs (w.alloc (.cells #[.int .i64 bs] 3)) (hL.below ((Below.refl _ _).alloc (Nat.le_refl _) _) |>.more (by simp [World.size_alloc]))).mono ?_); intro e w1 hr; obtain ⟨rfl, hb, hc, hf, hz⟩ := hr.use; (try simp only [World.size_alloc, World.size_setCell, World.size_drew] at hz); clear hr; have c0 := fun o => hc (w.heap.size) o (by (try simp only [World.size_alloc, World.size_setCell, World.size_drew]); omega); have f0 := fun o => hf (w.heap.size) o (by (try simp only [World.size_alloc, World.size_setCell, World.size_drew]); omega); have z0 : w.heap.size < w1.heap.size := (by (try simp only [World.size_alloc, World.size_setCell, World.size_drew]); omega); clear hc hf; simp only [go_sem, World.size_alloc, *] at c0 f0)
    go_returns
    exact RetOwn.mk (fun _ => rfl) Own.nil_ (by (repeat' (first | (with_reducible exact Below.refl _ _) | (with_reducible assumption) | (with_reducible refine Below.alloc ?_ ?_ _) | (with_reducible refine Below.drew ?_) | (with_reducible refine Below.setCell ?_ ?_ _) | (refine Below.trans ?_ (Below.mono (by with_reducible assumption) ?_)) | go_size)))
set_option maxHeartbeats 1000000 in
theorem r_HeapBack (A : Option Addr) (c : Nat) (xs : List Piece) (bs : Int) (w : World) (hL : Lies encP 3 w w.heap.size A xs) :
    Calls Try.prog 31 #[.slice A xs.length c, .int .i64 bs] w (RetOwn encP 31 3 w (heapBack xs bs).1 fun v => .tuple #[v, .int .i64 (heapBack xs bs).2]) := by
  cases he : (heapE xs != 0)
  · have he' : heapE xs = 0 := by simpa using he
    have hlen := heapE_len he'
    have HE := Lib.hid he'
    clear he'
    go_enter Try.func31, Try.ntmps31
    go_wp2_with (first | (go_at_call 46; (with_reducible refine (r_HeapCheck A c xs _ hL).mono ?_); intro e w1 hr; obtain ⟨rfl, hb, hc, hf, hz⟩ := hr.use; (try simp only [World.size_alloc, World.size_setCell, World.size_drew] at hz); clear hr) | (go_at_call 64; (with_reducible refine (r_Copy_P A c xs w1 (by unfold maxLen; omega) (by omega) ((hL.below (by (repeat' (first | (with_reducible exact Below.refl _ _) | (with_reducible assumption) | (with_reducible refine Below.alloc ?_ ?_ _) | (with_reducible refine Below.drew ?_) | (with_reducible refine Below.setCell ?_ ?_ _) | (refine Below.trans ?_ (Below.mono (by with_reducible assumption) ?_)) | go_size)))).more (by omega))).mono ?_); rintro e w3 ⟨A3, k3, rfl, hO3, hL3, hb3⟩; have hz3 := hb3.size; have HO := Lib.hid hO3; clear hO3))
    go_loopw [7, 8, 18] (fun _ _ v wr => ∃ k : Nat, v = .int .i64 k ∧ k ≤ xs.length ∧ idxP (backQ bs) xs = idxFrom (backQ bs) xs k ∧ Below w3.heap.size w3 wr) (fun _ _ v _ => (xs.length - intOf v).toNat)
    case atStart => exact ⟨0, rfl, by omega, rfl, by (repeat' (first | (with_reducible exact Below.refl _ _) | (with_reducible assumption) | (with_reducible refine Below.alloc ?_ ?_ _) | (with_reducible refine Below.drew ?_) | (with_reducible refine Below.setCell ?_ ?_ _) | (refine Below.trans ?_ (Below.mono (by with_reducible assumption) ?_)) | go_size))⟩
    case round =>
      obtain ⟨k, rfl, hk, hi, hbw⟩ := hrel
      have hbz := hbw.size
      have HI := Lib.hid hi
      clear hi
      rcases Nat.lt_or_ge k xs.length with hlt | hge
      · obtain ⟨b, o, p, rfl, hb, hp, q0, q1, q2⟩ := (hL3.below hbw).cellsP hlt
        obtain ⟨g, hgA, hg1, hg2, hgf, _⟩ := (HO.out.below hbw (Nat.le_refl _)).at_ hp
        cases hgA
        simp only [Nat.zero_add] at q0 q1 q2
        have HX := Lib.hid hp
        clear hp
        cases h1 : (p.state == 1)
        · have H := Lib.hid (HI.out.trans (idxFrom_no HX.out (show backQ bs p = false by simp [backQ, h1])))
          go_wp2
          go_roundw
          case rel => exact ⟨k + 1, by go_num, by omega, H.out, by (repeat' (first | (with_reducible exact Below.refl _ _) | (with_reducible assumption) | (with_reducible refine Below.alloc ?_ ?_ _) | (with_reducible refine Below.drew ?_) | (with_reducible refine Below.setCell ?_ ?_ _) | (refine Below.trans ?_ (Below.mono (by with_reducible assumption) ?_)) | go_size))⟩
          case measure => simp [intOf]; omega
        · cases h2 : (p.base == bs)
          · have H := Lib.hid (HI.out.trans (idxFrom_no HX.out (show backQ bs p = false by simp [backQ, h2])))
            go_wp2
            go_roundw
            case rel => exact ⟨k + 1, by go_num, by omega, H.out, by (repeat' (first | (with_reducible exact Below.refl _ _) | (with_reducible assumption) | (with_reducible refine Below.alloc ?_ ?_ _) | (with_reducible refine Below.drew ?_) | (with_reducible refine Below.setCell ?_ ?_ _) | (refine Below.trans ?_ (Below.mono (by with_reducible assumption) ?_)) | go_size))⟩
            case measure => simp [intOf]; omega
          · have H := Lib.hid (heapBack_some HE.out (HI.out.trans (idxFrom_yes HX.out (show backQ bs p = true by simp [backQ, h1, h2]))) HX.out)
            go_wp2
            go_returns
            rw [H.out]
            exact RetOwn.mk (fun _ => rfl) ((((HO.out.below hbw (Nat.le_refl _)).set_ (y := back2 p) (j := 2) (fun _ => rfl) HX.out (by decide) rfl).alloc _).base_mono (by omega)) (by (repeat' (first | (with_reducible exact Below.refl _ _) | (with_reducible assumption) | (with_reducible refine Below.alloc ?_ ?_ _) | (with_reducible refine Below.drew ?_) | (with_reducible refine Below.setCell ?_ ?_ _) | (refine Below.trans ?_ (Below.mono (by with_reducible assumption) ?_)) | go_size)))
      · have H := Lib.hid (heapBack_none HE.out (HI.out.trans (idxFrom_end hge)))
        go_wp2
        go_returns
        rw [H.out]
        exact RetOwn.mk (fun _ => rfl) Own.nil_ (by (repeat' (first | (with_reducible exact Below.refl _ _) | (with_reducible assumption) | (with_reducible refine Below.alloc ?_ ?_ _) | (with_reducible refine Below.drew ?_) | (with_reducible refine Below.setCell ?_ ?_ _) | (refine Below.trans ?_ (Below.mono (by with_reducible assumption) ?_)) | go_size)))
  · have H := Lib.hid (heapBack_no (base := bs) (show ¬ heapE xs = 0 by simpa using he))
    rw [H.out]
    go_enter Try.func31, Try.ntmps31
    go_wp2_with (go_at_call 46; (with_reducible refine (r_HeapCheck A c xs _ hL).mono ?_); intro e w1 hr; obtain ⟨rfl, hb, hc, hf, hz⟩ := hr.use; (try simp only [World.size_alloc, World.size_setCell, World.size_drew] at hz); clear hr)
    go_returns
    exact RetOwn.mk (fun _ => rfl) Own.nil_ (by (repeat' (first | (with_reducible exact Below.refl _ _) | (with_reducible assumption) | (with_reducible refine Below.alloc ?_ ?_ _) | (with_reducible refine Below.drew ?_) | (with_reducible refine Below.setCell ?_ ?_ _) | (refine Below.trans ?_ (Below.mono (by with_reducible assumption) ?_)) | go_size)))
end Go.Proofs.Ytmalaomcolgfcaa
