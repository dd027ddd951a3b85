/- The contracts of package heap's Check and New and of their references: each returns a plain function of its values. Conditions: the numbers are numbers of 64 bits. -/
import Derived.Test.YtmalaomcolgfcaaRound
import Derived.Test.YtmalaomcolgfcaaLies
namespace Go.Proofs.Ytmalaomcolgfcaa
open Go.RowKit
set_option linter.unusedVariables false
set_option linter.unusedSimpArgs false
set_option maxRecDepth 100000

def mayP (p : Piece) : Bool := decide (0 ≤ p.base) && (decide (1 ≤ p.len) && (decide (p.len ≤ 400) && (decide (p.base ≤ 400 - p.len) && (decide (0 ≤ p.state) && decide (p.state ≤ 2)))))
theorem mayP_iff {p : Piece} : mayP p = true ↔ 0 ≤ p.base ∧ 1 ≤ p.len ∧ p.len ≤ 400 ∧ p.base ≤ 400 - p.len ∧ 0 ≤ p.state ∧ p.state ≤ 2 := by
  simp only [mayP, Bool.and_eq_true, decide_eq_true_eq]
theorem mayP_no {p : Piece} (h : ¬(0 ≤ p.base ∧ 1 ≤ p.len ∧ p.len ≤ 400 ∧ p.base ≤ 400 - p.len ∧ 0 ≤ p.state ∧ p.state ≤ 2)) : mayP p = false := by
  rw [Bool.eq_false_iff, Ne, mayP_iff]; exact h
/-- two neighbours that may not be -/
def badP (q p : Piece) : Bool := (q.base + q.len != p.base) || ((q.state == 0) && (p.state == 0))
def heapGo : Option Piece → List Piece → Int
  | _, [] => 0
  | prev, p :: l => if mayP p = true then (if (match prev with | none => false | some q => badP q p) = true then 5 else heapGo (some p) l) else 1
/-- Check of a heap -/
def heapE (l : List Piece) : Int := if 30 < l.length then 2 else heapGo none l
/-- what is left to check from k on -/
def heapFrom (l : List Piece) (k : Nat) : Int := heapGo (match k with | 0 => none | j + 1 => l[j]?) (l.drop k)
theorem drop_at {α : Type} {l : List α} {k : Nat} {p : α} (h : l[k]? = some p) : l.drop k = p :: l.drop (k + 1) := by
  obtain ⟨hk, he⟩ := List.getElem?_eq_some_iff.1 h
  rw [List.drop_eq_getElem_cons hk, he]
theorem heapFrom_end {l : List Piece} {k : Nat} (h : l.length ≤ k) : heapFrom l k = 0 := by
  unfold heapFrom
  rw [List.drop_eq_nil_of_le h]
  cases k <;> simp only [heapGo]
theorem heapFrom_no {l : List Piece} {k : Nat} {p : Piece} (h : l[k]? = some p) (hm : mayP p = false) : heapFrom l k = 1 := by
  unfold heapFrom
  rw [drop_at h]
  unfold heapGo
  simp [hm]
theorem heapFrom_zero {l : List Piece} {p : Piece} (h : l[0]? = some p) (hm : mayP p = true) : heapFrom l 0 = heapFrom l 1 := by
  unfold heapFrom
  rw [drop_at h]
  simp only [h]
  rw [heapGo]
  simp [hm]
theorem heapFrom_bad {l : List Piece} {k : Nat} {q p : Piece} (hq : l[k]? = some q) (h : l[k + 1]? = some p) (hm : mayP p = true) (hb : badP q p = true) : heapFrom l (k + 1) = 5 := by
  unfold heapFrom
  rw [drop_at h]
  simp only [hq]
  rw [heapGo]
  simp [hm, hb]
theorem heapFrom_ok {l : List Piece} {k : Nat} {q p : Piece} (hq : l[k]? = some q) (h : l[k + 1]? = some p) (hm : mayP p = true) (hb : badP q p = false) : heapFrom l (k + 1) = heapFrom l (k + 2) := by
  unfold heapFrom
  rw [drop_at h]
  simp only [hq, h]
  rw [heapGo]
  simp [hm, hb]

theorem c_heap_may (p : Piece) (w : World) :
    Calls Try.prog 47 #[.agg #[.int .i64 p.base, .int .i64 p.len, .int .i64 p.state]] w (Ret (.bool (mayP p)) w) := by
  rcases Int.lt_or_le p.base 0 with h1 | h1
  · have H := Lib.hid (mayP_no (p := p) (by omega))
    go_enter Try.func47, Try.ntmps47
    go_wp2
    go_returns
    exact Ret.bool H.out.symm (by (repeat' (first | (with_reducible exact Below.refl _ _) | (with_reducible assumption) | (with_reducible refine Below.alloc ?_ ?_ _) | (with_reducible refine Below.drew ?_) | (with_reducible refine Below.setCell ?_ ?_ _) | (refine Below.trans ?_ (Below.mono (by with_reducible assumption) ?_)) | go_size)))
  rcases Int.lt_or_le p.len 1 with h2 | h2
  · have H := Lib.hid (mayP_no (p := p) (by omega))
    go_enter Try.func47, Try.ntmps47
    go_wp2
    go_returns
    exact Ret.bool H.out.symm (by (repeat' (first | (with_reducible exact Below.refl _ _) | (with_reducible assumption) | (with_reducible refine Below.alloc ?_ ?_ _) | (with_reducible refine Below.drew ?_) | (with_reducible refine Below.setCell ?_ ?_ _) | (refine Below.trans ?_ (Below.mono (by with_reducible assumption) ?_)) | go_size)))
  rcases Int.lt_or_le 400 p.len with h3 | h3
  · have H := Lib.hid (mayP_no (p := p) (by omega))
    go_enter Try.func47, Try.ntmps47
    go_wp2
    go_returns
    exact Ret.bool H.out.symm (by (repeat' (first | (with_reducible exact Below.refl _ _) | (with_reducible assumption) | (with_reducible refine Below.alloc ?_ ?_ _) | (with_reducible refine Below.drew ?_) | (with_reducible refine Below.setCell ?_ ?_ _) | (refine Below.trans ?_ (Below.mono (by with_reducible assumption) ?_)) | go_size)))
  rcases Int.lt_or_le (400 - p.len) p.base with h4 | h4
  · have H := Lib.hid (mayP_no (p := p) (by omega))
    go_enter Try.func47, Try.ntmps47
    go_wp2
    go_returns
    exact Ret.bool H.out.symm (by (repeat' (first | (with_reducible exact Below.refl _ _) | (with_reducible assumption) | (with_reducible refine Below.alloc ?_ ?_ _) | (with_reducible refine Below.drew ?_) | (with_reducible refine Below.setCell ?_ ?_ _) | (refine Below.trans ?_ (Below.mono (by with_reducible assumption) ?_)) | go_size)))
  rcases Int.lt_or_le p.state 0 with h5 | h5
  · have H := Lib.hid (mayP_no (p := p) (by omega))
    go_enter Try.func47, Try.ntmps47
    go_wp2
    go_returns
    exact Ret.bool H.out.symm (by (repeat' (first | (with_reducible exact Below.refl _ _) | (with_reducible assumption) | (with_reducible refine Below.alloc ?_ ?_ _) | (with_reducible refine Below.drew ?_) | (with_reducible refine Below.setCell ?_ ?_ _) | (refine Below.trans ?_ (Below.mono (by with_reducible assumption) ?_)) | go_size)))
  rcases Int.lt_or_le 2 p.state with h6 | h6
  · have H := Lib.hid (mayP_no (p := p) (by omega))
    have h7 : decide (p.state ≤ 2) = false := decide_eq_false (by omega)
    go_enter Try.func47, Try.ntmps47
    go_wp2
    go_returns
    exact Ret.bool H.out.symm (by (repeat' (first | (with_reducible exact Below.refl _ _) | (with_reducible assumption) | (with_reducible refine Below.alloc ?_ ?_ _) | (with_reducible refine Below.drew ?_) | (with_reducible refine Below.setCell ?_ ?_ _) | (refine Below.trans ?_ (Below.mono (by with_reducible assumption) ?_)) | go_size)))
  · have H := Lib.hid (mayP_iff (p := p).2 (by omega))
    have h7 : decide (p.state ≤ 2) = true := decide_eq_true h6
    go_enter Try.func47, Try.ntmps47
    go_wp2
    go_returns
    exact Ret.bool H.out.symm (by (repeat' (first | (with_reducible exact Below.refl _ _) | (with_reducible assumption) | (with_reducible refine Below.alloc ?_ ?_ _) | (with_reducible refine Below.drew ?_) | (with_reducible refine Below.setCell ?_ ?_ _) | (refine Below.trans ?_ (Below.mono (by with_reducible assumption) ?_)) | go_size)))
set_option maxHeartbeats 4000000 in
theorem c_heap_Check (A : Option Addr) (c : Nat) (xs : List Piece) (w : World) (hL : Lies encP 3 w w.heap.size A xs) :
    Calls Try.prog 20 #[.slice A xs.length c] w (Ret (.int .i64 (heapE xs)) w) := by
  by_cases hn : 30 < xs.length
  · have H := Lib.hid (show heapE xs = 2 by simp [heapE, hn])
    go_enter Try.func20, Try.ntmps20
    go_wp2
    go_returns
    exact Ret.int H.out.symm (by (repeat' (first | (with_reducible exact Below.refl _ _) | (with_reducible assumption) | (with_reducible refine Below.alloc ?_ ?_ _) | (with_reducible refine Below.drew ?_) | (with_reducible refine Below.setCell ?_ ?_ _) | (refine Below.trans ?_ (Below.mono (by with_reducible assumption) ?_)) | go_size)))
  have HE := Lib.hid (show heapE xs = heapFrom xs 0 by simp [heapE, hn, heapFrom])
  have hn' : xs.length ≤ 30 := by omega
  clear hn
  go_enter Try.func20, Try.ntmps20
  go_wp2
  go_loopw [10] (fun v wr => ∃ k : Nat, v = .int .i64 k ∧ k ≤ xs.length ∧ heapE xs = heapFrom xs k ∧ (∀ j p, j < k → xs[j]? = some p → mayP p = true) ∧ Below w.heap.size w wr) (fun v _ => (xs.length - intOf v).toNat)
  case atStart => exact ⟨0, rfl, by omega, HE.out, fun j p hj => by omega, by (repeat' (first | (with_reducible exact Below.refl _ _) | (with_reducible assumption) | (with_reducible refine Below.alloc ?_ ?_ _) | (with_reducible refine Below.drew ?_) | (with_reducible refine Below.setCell ?_ ?_ _) | (refine Below.trans ?_ (Below.mono (by with_reducible assumption) ?_)) | go_size))⟩
  case round =>
    obtain ⟨k, rfl, hk, he, hall, hbw⟩ := hrel
    have hbz := hbw.size
    have HF := Lib.hid he
    have HA := Lib.hid hall
    clear he hall
    rcases Nat.lt_or_ge k xs.length with hlt | hge
    · obtain ⟨b, o, p, rfl, hb, hp, q0, q1, q2⟩ := (hL.below hbw).piece hlt
      have HP := Lib.hid hp
      clear hp
      have hbr : b < wr.heap.size := by omega
      cases hm : mayP p
      · have H := Lib.hid (HF.out.trans (heapFrom_no HP.out hm))
        go_wp2_with (go_at_call 47; (with_reducible refine (c_heap_may p _).mono ?_); intro e w1 hr; obtain ⟨rfl, hb, hc, hf, hz⟩ := hr.use; (try simp only [World.size_alloc, World.size_setCell, World.size_drew] at hz); clear hr; have c0 := fun o => hc (wr.heap.size) o (by (try simp only [World.size_alloc, World.size_setCell, World.size_drew]); omega); have f0 := fun o => hf (wr.heap.size) o (by (try simp only [World.size_alloc, World.size_setCell, World.size_drew]); omega); have z0 : wr.heap.size < w1.heap.size := (by (try simp only [World.size_alloc, World.size_setCell, World.size_drew]); omega); clear hc hf; simp only [go_sem, World.size_alloc, *] at c0 f0)
        go_returns
        exact Ret.int H.out.symm (by (repeat' (first | (with_reducible exact Below.refl _ _) | (with_reducible assumption) | (with_reducible refine Below.alloc ?_ ?_ _) | (with_reducible refine Below.drew ?_) | (with_reducible refine Below.setCell ?_ ?_ _) | (refine Below.trans ?_ (Below.mono (by with_reducible assumption) ?_)) | go_size)))
      · have hm' := mayP_iff.1 hm
        rcases k with _ | j
        · have H := Lib.hid (HF.out.trans (heapFrom_zero HP.out hm))
          simp only [Nat.zero_mul, Nat.add_zero] at q0 q1 q2
          go_wp2_with (go_at_call 47; (with_reducible refine (c_heap_may p _).mono ?_); intro e w1 hr; obtain ⟨rfl, hb, hc, hf, hz⟩ := hr.use; (try simp only [World.size_alloc, World.size_setCell, World.size_drew] at hz); clear hr; have c0 := fun o => hc (wr.heap.size) o (by (try simp only [World.size_alloc, World.size_setCell, World.size_drew]); omega); have f0 := fun o => hf (wr.heap.size) o (by (try simp only [World.size_alloc, World.size_setCell, World.size_drew]); omega); have z0 : wr.heap.size < w1.heap.size := (by (try simp only [World.size_alloc, World.size_setCell, World.size_drew]); omega); clear hc hf; simp only [go_sem, World.size_alloc, *] at c0 f0)
          (refine wp_region_kept (w0 := wr) (bs := [#[.int .i64 p.base, .int .i64 p.len, .int .i64 p.state]]) (by kernel_rfl) (by kernel_rfl) (Kept.mk1 (by (repeat' (first | (with_reducible exact Below.refl _ _) | (with_reducible assumption) | (with_reducible refine Below.alloc ?_ ?_ _) | (with_reducible refine Below.drew ?_) | (with_reducible refine Below.setCell ?_ ?_ _) | (refine Below.trans ?_ (Below.mono (by with_reducible assumption) ?_)) | go_size))) (by go_size) (fun o => by simp [go_sem, *]) (fun o => by simp [go_sem, *])) ?_; (repeat (first | go_big_quiet_skip | (go_big_quiet_want; first | (refine BigFrame.quiet_move _ rfl ?_; (simp only [Act.put, Act.eval, Array.getD_eq_getD_getElem?, List.getElem?_toArray, List.getElem?_cons_zero, List.getElem?_cons_succ, Option.getD_some, List.setIfInBounds_toArray, List.set_cons_zero, List.set_cons_succ]); go_big_quiet_on) | (refine BigFrame.quiet_assign _ rfl ?_; (simp only [Act.put, Act.eval, Array.getD_eq_getD_getElem?, List.getElem?_toArray, List.getElem?_cons_zero, List.getElem?_cons_succ, Option.getD_some, List.setIfInBounds_toArray, List.set_cons_zero, List.set_cons_succ]); go_big_quiet_on) | (apply quiet_call; (focus (intro W; go_simp; constructor <;> with_reducible rfl)); (focus (intro W hW; first | fail)); (simp only [Act.put, Act.eval, Array.getD_eq_getD_getElem?, List.getElem?_toArray, List.getElem?_cons_zero, List.getElem?_cons_succ, Option.getD_some, List.setIfInBounds_toArray, List.set_cons_zero, List.set_cons_succ]); go_big_quiet_on) | (apply quiet_run; (focus (intro W hW; obtain ⟨hB, hS, hC, hF⟩ := hW; have c0 := hC 0 _ rfl; have f0 := hF 0 _ rfl; clear hC hF; (try simp only [Nat.add_zero] at c0 f0); (try simp only [List.length_cons, List.length_nil] at hS); skip; go_simp; first | done | with_reducible rfl)); (simp only [Act.put, Act.eval, Array.getD_eq_getD_getElem?, List.getElem?_toArray, List.getElem?_cons_zero, List.getElem?_cons_succ, Option.getD_some, List.setIfInBounds_toArray, List.set_cons_zero, List.set_cons_succ]); go_big_quiet_on)))); refine wpQuiet_nil ?_; intro w2 hW; obtain ⟨hB, hS, hC, hF⟩ := hW; have c0 := hC 0 _ rfl; have f0 := hF 0 _ rfl; clear hC hF; (try simp only [Nat.add_zero] at c0 f0); (try simp only [List.length_cons, List.length_nil] at hS); skip)
          go_wp2
          go_roundw
          case rel =>
            refine ⟨1, by go_num, by omega, H.out, fun j q hj hq => ?_, by (repeat' (first | (with_reducible exact Below.refl _ _) | (with_reducible assumption) | (with_reducible refine Below.alloc ?_ ?_ _) | (with_reducible refine Below.drew ?_) | (with_reducible refine Below.setCell ?_ ?_ _) | (refine Below.trans ?_ (Below.mono (by with_reducible assumption) ?_)) | go_size))⟩
            obtain rfl : j = 0 := by omega
            have := HP.out.symm.trans hq
            cases this
            exact hm
          case measure => simp [intOf]; omega
        · obtain ⟨b', o', q, hA, _, hq, r0, r1, r2⟩ := (hL.below hbw).piece (k := j) (by omega)
          cases hA
          have HQ := Lib.hid hq
          clear hq
          have hmq := mayP_iff.1 (HA.out j q (by omega) HQ.out)
          have e1 : IntKind.i64.wrap (q.base + q.len) = q.base + q.len := IntWalk.i64_in _ (by omega)
          have e2 : IntKind.i64.wrap (j : Int) = (j : Int) := IntWalk.i64_in _ (by omega)
          have e3 : decide (0 < ((j + 1 : Nat) : Int)) = true := decide_eq_true (by omega)
          have e4 : (0 ≤ (j : Int) ∧ (j : Int) < xs.length) := by omega
          cases h1 : (q.base + q.len != p.base)
          · cases h2 : (q.state == 0)
            · have hbad : badP q p = false := by unfold badP; rw [h1, h2]; rfl
              have H := Lib.hid (HF.out.trans (heapFrom_ok HQ.out HP.out hm hbad))
              go_wp2_with (go_at_call 47; (with_reducible refine (c_heap_may p _).mono ?_); intro e w1 hr; obtain ⟨rfl, hb, hc, hf, hz⟩ := hr.use; (try simp only [World.size_alloc, World.size_setCell, World.size_drew] at hz); clear hr; have c0 := fun o => hc (wr.heap.size) o (by (try simp only [World.size_alloc, World.size_setCell, World.size_drew]); omega); have f0 := fun o => hf (wr.heap.size) o (by (try simp only [World.size_alloc, World.size_setCell, World.size_drew]); omega); have z0 : wr.heap.size < w1.heap.size := (by (try simp only [World.size_alloc, World.size_setCell, World.size_drew]); omega); clear hc hf; simp only [go_sem, World.size_alloc, *] at c0 f0)
              (refine wp_region_kept (w0 := wr) (bs := [#[.int .i64 p.base, .int .i64 p.len, .int .i64 p.state]]) (by kernel_rfl) (by kernel_rfl) (Kept.mk1 (by (repeat' (first | (with_reducible exact Below.refl _ _) | (with_reducible assumption) | (with_reducible refine Below.alloc ?_ ?_ _) | (with_reducible refine Below.drew ?_) | (with_reducible refine Below.setCell ?_ ?_ _) | (refine Below.trans ?_ (Below.mono (by with_reducible assumption) ?_)) | go_size))) (by go_size) (fun o => by simp [go_sem, *]) (fun o => by simp [go_sem, *])) ?_; (repeat (first | go_big_quiet_skip | (go_big_quiet_want; first | (refine BigFrame.quiet_move _ rfl ?_; (simp only [Act.put, Act.eval, Array.getD_eq_getD_getElem?, List.getElem?_toArray, List.getElem?_cons_zero, List.getElem?_cons_succ, Option.getD_some, List.setIfInBounds_toArray, List.set_cons_zero, List.set_cons_succ]); go_big_quiet_on) | (refine BigFrame.quiet_assign _ rfl ?_; (simp only [Act.put, Act.eval, Array.getD_eq_getD_getElem?, List.getElem?_toArray, List.getElem?_cons_zero, List.getElem?_cons_succ, Option.getD_some, List.setIfInBounds_toArray, List.set_cons_zero, List.set_cons_succ]); go_big_quiet_on) | (apply quiet_call; (focus (intro W; go_simp; constructor <;> with_reducible rfl)); (focus (intro W hW; first | fail)); (simp only [Act.put, Act.eval, Array.getD_eq_getD_getElem?, List.getElem?_toArray, List.getElem?_cons_zero, List.getElem?_cons_succ, Option.getD_some, List.setIfInBounds_toArray, List.set_cons_zero, List.set_cons_succ]); go_big_quiet_on) | (apply quiet_run; (focus (intro W hW; obtain ⟨hB, hS, hC, hF⟩ := hW; have c0 := hC 0 _ rfl; have f0 := hF 0 _ rfl; clear hC hF; (try simp only [Nat.add_zero] at c0 f0); (try simp only [List.length_cons, List.length_nil] at hS); have s0 := (hB.cell (p := ⟨b, o + j * 3, none⟩) hbr).trans r0; have s1 := (hB.cell (p := ⟨b, o + j * 3 + 1, none⟩) hbr).trans r1; have s2 := (hB.cell (p := ⟨b, o + j * 3 + 2, none⟩) hbr).trans r2; go_simp; first | done | with_reducible rfl)); (simp only [Act.put, Act.eval, Array.getD_eq_getD_getElem?, List.getElem?_toArray, List.getElem?_cons_zero, List.getElem?_cons_succ, Option.getD_some, List.setIfInBounds_toArray, List.set_cons_zero, List.set_cons_succ]); go_big_quiet_on)))); refine wpQuiet_nil ?_; intro w2 hW; obtain ⟨hB, hS, hC, hF⟩ := hW; have c0 := hC 0 _ rfl; have f0 := hF 0 _ rfl; clear hC hF; (try simp only [Nat.add_zero] at c0 f0); (try simp only [List.length_cons, List.length_nil] at hS); have s0 := (hB.cell (p := ⟨b, o + j * 3, none⟩) hbr).trans r0; have s1 := (hB.cell (p := ⟨b, o + j * 3 + 1, none⟩) hbr).trans r1; have s2 := (hB.cell (p := ⟨b, o + j * 3 + 2, none⟩) hbr).trans r2)
              go_wp2
              go_roundw
              case rel =>
                refine ⟨j + 2, by go_num, by omega, H.out, fun i r hj hq => ?_, by (repeat' (first | (with_reducible exact Below.refl _ _) | (with_reducible assumption) | (with_reducible refine Below.alloc ?_ ?_ _) | (with_reducible refine Below.drew ?_) | (with_reducible refine Below.setCell ?_ ?_ _) | (refine Below.trans ?_ (Below.mono (by with_reducible assumption) ?_)) | go_size))⟩
                rcases Nat.lt_or_ge i (j + 1) with hl | hl
                · exact HA.out i r hl hq
                · obtain rfl : i = j + 1 := by omega
                  have := HP.out.symm.trans hq
                  cases this
                  exact hm
              case measure => simp [intOf]; omega
            · cases h3 : (p.state == 0)
              · have hbad : badP q p = false := by unfold badP; rw [h1, h2, h3]; rfl
                have H := Lib.hid (HF.out.trans (heapFrom_ok HQ.out HP.out hm hbad))
                go_wp2_with (go_at_call 47; (with_reducible refine (c_heap_may p _).mono ?_); intro e w1 hr; obtain ⟨rfl, hb, hc, hf, hz⟩ := hr.use; (try simp only [World.size_alloc, World.size_setCell, World.size_drew] at hz); clear hr; have c0 := fun o => hc (wr.heap.size) o (by (try simp only [World.size_alloc, World.size_setCell, World.size_drew]); omega); have f0 := fun o => hf (wr.heap.size) o (by (try simp only [World.size_alloc, World.size_setCell, World.size_drew]); omega); have z0 : wr.heap.size < w1.heap.size := (by (try simp only [World.size_alloc, World.size_setCell, World.size_drew]); omega); clear hc hf; simp only [go_sem, World.size_alloc, *] at c0 f0)
                (refine wp_region_kept (w0 := wr) (bs := [#[.int .i64 p.base, .int .i64 p.len, .int .i64 p.state]]) (by kernel_rfl) (by kernel_rfl) (Kept.mk1 (by (repeat' (first | (with_reducible exact Below.refl _ _) | (with_reducible assumption) | (with_reducible refine Below.alloc ?_ ?_ _) | (with_reducible refine Below.drew ?_) | (with_reducible refine Below.setCell ?_ ?_ _) | (refine Below.trans ?_ (Below.mono (by with_reducible assumption) ?_)) | go_size))) (by go_size) (fun o => by simp [go_sem, *]) (fun o => by simp [go_sem, *])) ?_; (repeat (first | go_big_quiet_skip | (go_big_quiet_want; first | (refine BigFrame.quiet_move _ rfl ?_; (simp only [Act.put, Act.eval, Array.getD_eq_getD_getElem?, List.getElem?_toArray, List.getElem?_cons_zero, List.getElem?_cons_succ, Option.getD_some, List.setIfInBounds_toArray, List.set_cons_zero, List.set_cons_succ]); go_big_quiet_on) | (refine BigFrame.quiet_assign _ rfl ?_; (simp only [Act.put, Act.eval, Array.getD_eq_getD_getElem?, List.getElem?_toArray, List.getElem?_cons_zero, List.getElem?_cons_succ, Option.getD_some, List.setIfInBounds_toArray, List.set_cons_zero, List.set_cons_succ]); go_big_quiet_on) | (apply quiet_call; (focus (intro W; go_simp; constructor <;> with_reducible rfl)); (focus (intro W hW; first | fail)); (simp only [Act.put, Act.eval, Array.getD_eq_getD_getElem?, List.getElem?_toArray, List.getElem?_cons_zero, List.getElem?_cons_succ, Option.getD_some, List.setIfInBounds_toArray, List.set_cons_zero, List.set_cons_succ]); go_big_quiet_on) | (apply quiet_run; (focus (intro W hW; obtain ⟨hB, hS, hC, hF⟩ := hW; have c0 := hC 0 _ rfl; have f0 := hF 0 _ rfl; clear hC hF; (try simp only [Nat.add_zero] at c0 f0); (try simp only [List.length_cons, List.length_nil] at hS); have s0 := (hB.cell (p := ⟨b, o + j * 3, none⟩) hbr).trans r0; have s1 := (hB.cell (p := ⟨b, o + j * 3 + 1, none⟩) hbr).trans r1; have s2 := (hB.cell (p := ⟨b, o + j * 3 + 2, none⟩) hbr).trans r2; go_simp; first | done | with_reducible rfl)); (simp only [Act.put, Act.eval, Array.getD_eq_getD_getElem?, List.getElem?_toArray, List.getElem?_cons_zero, List.getElem?_cons_succ, Option.getD_some, List.setIfInBounds_toArray, List.set_cons_zero, List.set_cons_succ]); go_big_quiet_on)))); refine wpQuiet_nil ?_; intro w2 hW; obtain ⟨hB, hS, hC, hF⟩ := hW; have c0 := hC 0 _ rfl; have f0 := hF 0 _ rfl; clear hC hF; (try simp only [Nat.add_zero] at c0 f0); (try simp only [List.length_cons, List.length_nil] at hS); have s0 := (hB.cell (p := ⟨b, o + j * 3, none⟩) hbr).trans r0; have s1 := (hB.cell (p := ⟨b, o + j * 3 + 1, none⟩) hbr).trans r1; have s2 := (hB.cell (p := ⟨b, o + j * 3 + 2, none⟩) hbr).trans r2)
                go_wp2
                go_roundw
                case rel =>
                  refine ⟨j + 2, by go_num, by omega, H.out, fun i r hj hq => ?_, by (repeat' (first | (with_reducible exact Below.refl _ _) | (with_reducible assumption) | (with_reducible refine Below.alloc ?_ ?_ _) | (with_reducible refine Below.drew ?_) | (with_reducible refine Below.setCell ?_ ?_ _) | (refine Below.trans ?_ (Below.mono (by with_reducible assumption) ?_)) | go_size))⟩
                  rcases Nat.lt_or_ge i (j + 1) with hl | hl
                  · exact HA.out i r hl hq
                  · obtain rfl : i = j + 1 := by omega
                    have := HP.out.symm.trans hq
                    cases this
                    exact hm
                case measure => simp [intOf]; omega
              · have hbad : badP q p = true := by unfold badP; rw [h1, h2, h3]; rfl
                have H := Lib.hid (HF.out.trans (heapFrom_bad HQ.out HP.out hm hbad))
                go_wp2_with (go_at_call 47; (with_reducible refine (c_heap_may p _).mono ?_); intro e w1 hr; obtain ⟨rfl, hb, hc, hf, hz⟩ := hr.use; (try simp only [World.size_alloc, World.size_setCell, World.size_drew] at hz); clear hr; have c0 := fun o => hc (wr.heap.size) o (by (try simp only [World.size_alloc, World.size_setCell, World.size_drew]); omega); have f0 := fun o => hf (wr.heap.size) o (by (try simp only [World.size_alloc, World.size_setCell, World.size_drew]); omega); have z0 : wr.heap.size < w1.heap.size := (by (try simp only [World.size_alloc, World.size_setCell, World.size_drew]); omega); clear hc hf; simp only [go_sem, World.size_alloc, *] at c0 f0)
                (refine wp_region_kept (w0 := wr) (bs := [#[.int .i64 p.base, .int .i64 p.len, .int .i64 p.state]]) (by kernel_rfl) (by kernel_rfl) (Kept.mk1 (by (repeat' (first | (with_reducible exact Below.refl _ _) | (with_reducible assumption) | (with_reducible refine Below.alloc ?_ ?_ _) | (with_reducible refine Below.drew ?_) | (with_reducible refine Below.setCell ?_ ?_ _) | (refine Below.trans ?_ (Below.mono (by with_reducible assumption) ?_)) | go_size))) (by go_size) (fun o => by simp [go_sem, *]) (fun o => by simp [go_sem, *])) ?_; (repeat (first | go_big_quiet_skip | (go_big_quiet_want; first | (refine BigFrame.quiet_move _ rfl ?_; (simp only [Act.put, Act.eval, Array.getD_eq_getD_getElem?, List.getElem?_toArray, List.getElem?_cons_zero, List.getElem?_cons_succ, Option.getD_some, List.setIfInBounds_toArray, List.set_cons_zero, List.set_cons_succ]); go_big_quiet_on) | (refine BigFrame.quiet_assign _ rfl ?_; (simp only [Act.put, Act.eval, Array.getD_eq_getD_getElem?, List.getElem?_toArray, List.getElem?_cons_zero, List.getElem?_cons_succ, Option.getD_some, List.setIfInBounds_toArray, List.set_cons_zero, List.set_cons_succ]); go_big_quiet_on) | (apply quiet_call; (focus (intro W; go_simp; constructor <;> with_reducible rfl)); (focus (intro W hW; first | fail)); (simp only [Act.put, Act.eval, Array.getD_eq_getD_getElem?, List.getElem?_toArray, List.getElem?_cons_zero, List.getElem?_cons_succ, Option.getD_some, List.setIfInBounds_toArray, List.set_cons_zero, List.set_cons_succ]); go_big_quiet_on) | (apply quiet_run; (focus (intro W hW; obtain ⟨hB, hS, hC, hF⟩ := hW; have c0 := hC 0 _ rfl; have f0 := hF 0 _ rfl; clear hC hF; (try simp only [Nat.add_zero] at c0 f0); (try simp only [List.length_cons, List.length_nil] at hS); have s0 := (hB.cell (p := ⟨b, o + j * 3, none⟩) hbr).trans r0; have s1 := (hB.cell (p := ⟨b, o + j * 3 + 1, none⟩) hbr).trans r1; have s2 := (hB.cell (p := ⟨b, o + j * 3 + 2, none⟩) hbr).trans r2; go_simp; first | done | with_reducible rfl)); (simp only [Act.put, Act.eval, Array.getD_eq_getD_getElem?, List.getElem?_toArray, List.getElem?_cons_zero, List.getElem?_cons_succ, Option.getD_some, List.setIfInBounds_toArray, List.set_cons_zero, List.set_cons_succ]); go_big_quiet_on)))); refine wpQuiet_nil ?_; intro w2 hW; obtain ⟨hB, hS, hC, hF⟩ := hW; have c0 := hC 0 _ rfl; have f0 := hF 0 _ rfl; clear hC hF; (try simp only [Nat.add_zero] at c0 f0); (try simp only [List.length_cons, List.length_nil] at hS); have s0 := (hB.cell (p := ⟨b, o + j * 3, none⟩) hbr).trans r0; have s1 := (hB.cell (p := ⟨b, o + j * 3 + 1, none⟩) hbr).trans r1; have s2 := (hB.cell (p := ⟨b, o + j * 3 + 2, none⟩) hbr).trans r2)
                go_wp2
                go_returns
                exact Ret.int H.out.symm (by (repeat' (first | (with_reducible exact Below.refl _ _) | (with_reducible assumption) | (with_reducible refine Below.alloc ?_ ?_ _) | (with_reducible refine Below.drew ?_) | (with_reducible refine Below.setCell ?_ ?_ _) | (refine Below.trans ?_ (Below.mono (by with_reducible assumption) ?_)) | go_size)))
          · have hbad : badP q p = true := by unfold badP; rw [h1]; rfl
            have H := Lib.hid (HF.out.trans (heapFrom_bad HQ.out HP.out hm hbad))
            go_wp2_with (go_at_call 47; (with_reducible refine (c_heap_may p _).mono ?_); intro e w1 hr; obtain ⟨rfl, hb, hc, hf, hz⟩ := hr.use; (try simp only [World.size_alloc, World.size_setCell, World.size_drew] at hz); clear hr; have c0 := fun o => hc (wr.heap.size) o (by (try simp only [World.size_alloc, World.size_setCell, World.size_drew]); omega); have f0 := fun o => hf (wr.heap.size) o (by (try simp only [World.size_alloc, World.size_setCell, World.size_drew]); omega); have z0 : wr.heap.size < w1.heap.size := (by (try simp only [World.size_alloc, World.size_setCell, World.size_drew]); omega); clear hc hf; simp only [go_sem, World.size_alloc, *] at c0 f0)
            (refine wp_region_kept (w0 := wr) (bs := [#[.int .i64 p.base, .int .i64 p.len, .int .i64 p.state]]) (by kernel_rfl) (by kernel_rfl) (Kept.mk1 (by (repeat' (first | (with_reducible exact Below.refl _ _) | (with_reducible assumption) | (with_reducible refine Below.alloc ?_ ?_ _) | (with_reducible refine Below.drew ?_) | (with_reducible refine Below.setCell ?_ ?_ _) | (refine Below.trans ?_ (Below.mono (by with_reducible assumption) ?_)) | go_size))) (by go_size) (fun o => by simp [go_sem, *]) (fun o => by simp [go_sem, *])) ?_; (repeat (first | go_big_quiet_skip | (go_big_quiet_want; first | (refine BigFrame.quiet_move _ rfl ?_; (simp only [Act.put, Act.eval, Array.getD_eq_getD_getElem?, List.getElem?_toArray, List.getElem?_cons_zero, List.getElem?_cons_succ, Option.getD_some, List.setIfInBounds_toArray, List.set_cons_zero, List.set_cons_succ]); go_big_quiet_on) | (refine BigFrame.quiet_assign _ rfl ?_; (simp only [Act.put, Act.eval, Array.getD_eq_getD_getElem?, List.getElem?_toArray, List.getElem?_cons_zero, List.getElem?_cons_succ, Option.getD_some, List.setIfInBounds_toArray, List.set_cons_zero, List.set_cons_succ]); go_big_quiet_on) | (apply quiet_call; (focus (intro W; go_simp; constructor <;> with_reducible rfl)); (focus (intro W hW; first | fail)); (simp only [Act.put, Act.eval, Array.getD_eq_getD_getElem?, List.getElem?_toArray, List.getElem?_cons_zero, List.getElem?_cons_succ, Option.getD_some, List.setIfInBounds_toArray, List.set_cons_zero, List.set_cons_succ]); go_big_quiet_on) | (apply quiet_run; (focus (intro W hW; obtain ⟨hB, hS, hC, hF⟩ := hW; have c0 := hC 0 _ rfl; have f0 := hF 0 _ rfl; clear hC hF; (try simp only [Nat.add_zero] at c0 f0); (try simp only [List.length_cons, List.length_nil] at hS); have s0 := (hB.cell (p := ⟨b, o + j * 3, none⟩) hbr).trans r0; have s1 := (hB.cell (p := ⟨b, o + j * 3 + 1, none⟩) hbr).trans r1; have s2 := (hB.cell (p := ⟨b, o + j * 3 + 2, none⟩) hbr).trans r2; go_simp; first | done | with_reducible rfl)); (simp only [Act.put, Act.eval, Array.getD_eq_getD_getElem?, List.getElem?_toArray, List.getElem?_cons_zero, List.getElem?_cons_succ, Option.getD_some, List.setIfInBounds_toArray, List.set_cons_zero, List.set_cons_succ]); go_big_quiet_on)))); refine wpQuiet_nil ?_; intro w2 hW; obtain ⟨hB, hS, hC, hF⟩ := hW; have c0 := hC 0 _ rfl; have f0 := hF 0 _ rfl; clear hC hF; (try simp only [Nat.add_zero] at c0 f0); (try simp only [List.length_cons, List.length_nil] at hS); have s0 := (hB.cell (p := ⟨b, o + j * 3, none⟩) hbr).trans r0; have s1 := (hB.cell (p := ⟨b, o + j * 3 + 1, none⟩) hbr).trans r1; have s2 := (hB.cell (p := ⟨b, o + j * 3 + 2, none⟩) hbr).trans r2)
            go_wp2
            go_returns
            exact Ret.int H.out.symm (by (repeat' (first | (with_reducible exact Below.refl _ _) | (with_reducible assumption) | (with_reducible refine Below.alloc ?_ ?_ _) | (with_reducible refine Below.drew ?_) | (with_reducible refine Below.setCell ?_ ?_ _) | (refine Below.trans ?_ (Below.mono (by with_reducible assumption) ?_)) | go_size)))
    · have H := Lib.hid (HF.out.trans (heapFrom_end hge))
      go_wp2
      go_returns
      exact Ret.int H.out.symm (by (repeat' (first | (with_reducible exact Below.refl _ _) | (with_reducible assumption) | (with_reducible refine Below.alloc ?_ ?_ _) | (with_reducible refine Below.drew ?_) | (with_reducible refine Below.setCell ?_ ?_ _) | (refine Below.trans ?_ (Below.mono (by with_reducible assumption) ?_)) | go_size)))
set_option maxHeartbeats 4000000 in
theorem r_HeapCheck (A : Option Addr) (c : Nat) (xs : List Piece) (w : World) (hL : Lies encP 3 w w.heap.size A xs) :
    Calls Try.prog 46 #[.slice A xs.length c] w (Ret (.int .i64 (heapE xs)) w) := by
  by_cases hn : 30 < xs.length
  · have H := Lib.hid (show heapE xs = 2 by simp [heapE, hn])
    go_enter Try.func46, Try.ntmps46
    go_wp2
    go_returns
    exact Ret.int H.out.symm (by (repeat' (first | (with_reducible exact Below.refl _ _) | (with_reducible assumption) | (with_reducible refine Below.alloc ?_ ?_ _) | (with_reducible refine Below.drew ?_) | (with_reducible refine Below.setCell ?_ ?_ _) | (refine Below.trans ?_ (Below.mono (by with_reducible assumption) ?_)) | go_size)))
  have HE := Lib.hid (show heapE xs = heapFrom xs 0 by simp [heapE, hn, heapFrom])
  have hn' : xs.length ≤ 30 := by omega
  clear hn
  go_enter Try.func46, Try.ntmps46
  go_wp2
  go_loopw [10] (fun v wr => ∃ k : Nat, v = .int .i64 k ∧ k ≤ xs.length ∧ heapE xs = heapFrom xs k ∧ (∀ j p, j < k → xs[j]? = some p → mayP p = true) ∧ Below w.heap.size w wr) (fun v _ => (xs.length - intOf v).toNat)
  case atStart => exact ⟨0, rfl, by omega, HE.out, fun j p hj => by omega, by (repeat' (first | (with_reducible exact Below.refl _ _) | (with_reducible assumption) | (with_reducible refine Below.alloc ?_ ?_ _) | (with_reducible refine Below.drew ?_) | (with_reducible refine Below.setCell ?_ ?_ _) | (refine Below.trans ?_ (Below.mono (by with_reducible assumption) ?_)) | go_size))⟩
  case round =>
    obtain ⟨k, rfl, hk, he, hall, hbw⟩ := hrel
    have hbz := hbw.size
    have HF := Lib.hid he
    have HA := Lib.hid hall
    clear he hall
    rcases Nat.lt_or_ge k xs.length with hlt | hge
    · obtain ⟨b, o, p, rfl, hb, hp, q0, q1, q2⟩ := (hL.below hbw).piece hlt
      have HP := Lib.hid hp
      clear hp
      have hbr : b < wr.heap.size := by omega
      cases g1 : inR p.base 0 399
      · have hm : mayP p = false := mayP_no fun h => by rw [inR_iff.2 (by omega)] at g1; cases g1
        have H := Lib.hid (HF.out.trans (heapFrom_no HP.out hm))
        go_wp2_with (go_at_call 56; (with_reducible refine (r_outside _ _ _ _).mono ?_); rintro e w1 ⟨rfl, rfl⟩)
        go_returns
        exact Ret.int H.out.symm (by (repeat' (first | (with_reducible exact Below.refl _ _) | (with_reducible assumption) | (with_reducible refine Below.alloc ?_ ?_ _) | (with_reducible refine Below.drew ?_) | (with_reducible refine Below.setCell ?_ ?_ _) | (refine Below.trans ?_ (Below.mono (by with_reducible assumption) ?_)) | go_size)))
      cases g2 : inR p.len 1 400
      · have hm : mayP p = false := mayP_no fun h => by rw [inR_iff.2 (by omega)] at g2; cases g2
        have H := Lib.hid (HF.out.trans (heapFrom_no HP.out hm))
        go_wp2_with (go_at_call 56; (with_reducible refine (r_outside _ _ _ _).mono ?_); rintro e w1 ⟨rfl, rfl⟩)
        go_returns
        exact Ret.int H.out.symm (by (repeat' (first | (with_reducible exact Below.refl _ _) | (with_reducible assumption) | (with_reducible refine Below.alloc ?_ ?_ _) | (with_reducible refine Below.drew ?_) | (with_reducible refine Below.setCell ?_ ?_ _) | (refine Below.trans ?_ (Below.mono (by with_reducible assumption) ?_)) | go_size)))
      have i1 := inR_iff.1 g1
      have i2 := inR_iff.1 g2
      rcases Int.lt_or_le 400 (p.base + p.len) with g3 | g3
      · have hm : mayP p = false := mayP_no fun h => by omega
        have H := Lib.hid (HF.out.trans (heapFrom_no HP.out hm))
        go_wp2_with (go_at_call 56; (with_reducible refine (r_outside _ _ _ _).mono ?_); rintro e w1 ⟨rfl, rfl⟩)
        go_returns
        exact Ret.int H.out.symm (by (repeat' (first | (with_reducible exact Below.refl _ _) | (with_reducible assumption) | (with_reducible refine Below.alloc ?_ ?_ _) | (with_reducible refine Below.drew ?_) | (with_reducible refine Below.setCell ?_ ?_ _) | (refine Below.trans ?_ (Below.mono (by with_reducible assumption) ?_)) | go_size)))
      cases g4 : inR p.state 0 2
      · have hm : mayP p = false := mayP_no fun h => by rw [inR_iff.2 (by omega)] at g4; cases g4
        have H := Lib.hid (HF.out.trans (heapFrom_no HP.out hm))
        go_wp2_with (go_at_call 56; (with_reducible refine (r_outside _ _ _ _).mono ?_); rintro e w1 ⟨rfl, rfl⟩)
        go_returns
        exact Ret.int H.out.symm (by (repeat' (first | (with_reducible exact Below.refl _ _) | (with_reducible assumption) | (with_reducible refine Below.alloc ?_ ?_ _) | (with_reducible refine Below.drew ?_) | (with_reducible refine Below.setCell ?_ ?_ _) | (refine Below.trans ?_ (Below.mono (by with_reducible assumption) ?_)) | go_size)))
      have i4 := inR_iff.1 g4
      have hm : mayP p = true := mayP_iff.2 (by omega)
      have hm' := mayP_iff.1 hm
      rcases k with _ | j
      · have H := Lib.hid (HF.out.trans (heapFrom_zero HP.out hm))
        simp only [Nat.zero_mul, Nat.add_zero] at q0 q1 q2
        go_wp2_with (go_at_call 56; (with_reducible refine (r_outside _ _ _ _).mono ?_); rintro e w1 ⟨rfl, rfl⟩)
        (refine wp_region_kept (w0 := wr) (bs := [#[.int .i64 p.base, .int .i64 p.len, .int .i64 p.state]]) (by kernel_rfl) (by kernel_rfl) (Kept.mk1 (by (repeat' (first | (with_reducible exact Below.refl _ _) | (with_reducible assumption) | (with_reducible refine Below.alloc ?_ ?_ _) | (with_reducible refine Below.drew ?_) | (with_reducible refine Below.setCell ?_ ?_ _) | (refine Below.trans ?_ (Below.mono (by with_reducible assumption) ?_)) | go_size))) (by go_size) (fun o => by simp [go_sem, *]) (fun o => by simp [go_sem, *])) ?_; (repeat (first | go_big_quiet_skip | (go_big_quiet_want; first | (refine BigFrame.quiet_move _ rfl ?_; (simp only [Act.put, Act.eval, Array.getD_eq_getD_getElem?, List.getElem?_toArray, List.getElem?_cons_zero, List.getElem?_cons_succ, Option.getD_some, List.setIfInBounds_toArray, List.set_cons_zero, List.set_cons_succ]); go_big_quiet_on) | (refine BigFrame.quiet_assign _ rfl ?_; (simp only [Act.put, Act.eval, Array.getD_eq_getD_getElem?, List.getElem?_toArray, List.getElem?_cons_zero, List.getElem?_cons_succ, Option.getD_some, List.setIfInBounds_toArray, List.set_cons_zero, List.set_cons_succ]); go_big_quiet_on) | (apply quiet_call; (focus (intro W; go_simp; constructor <;> with_reducible rfl)); (focus (intro W hW; first | fail)); (simp only [Act.put, Act.eval, Array.getD_eq_getD_getElem?, List.getElem?_toArray, List.getElem?_cons_zero, List.getElem?_cons_succ, Option.getD_some, List.setIfInBounds_toArray, List.set_cons_zero, List.set_cons_succ]); go_big_quiet_on) | (apply quiet_run; (focus (intro W hW; obtain ⟨hB, hS, hC, hF⟩ := hW; have c0 := hC 0 _ rfl; have f0 := hF 0 _ rfl; clear hC hF; (try simp only [Nat.add_zero] at c0 f0); (try simp only [List.length_cons, List.length_nil] at hS); skip; go_simp; first | done | with_reducible rfl)); (simp only [Act.put, Act.eval, Array.getD_eq_getD_getElem?, List.getElem?_toArray, List.getElem?_cons_zero, List.getElem?_cons_succ, Option.getD_some, List.setIfInBounds_toArray, List.set_cons_zero, List.set_cons_succ]); go_big_quiet_on)))); refine wpQuiet_nil ?_; intro w2 hW; obtain ⟨hB, hS, hC, hF⟩ := hW; have c0 := hC 0 _ rfl; have f0 := hF 0 _ rfl; clear hC hF; (try simp only [Nat.add_zero] at c0 f0); (try simp only [List.length_cons, List.length_nil] at hS); skip)
        go_wp2
        go_roundw
        case rel =>
          refine ⟨1, by go_num, by omega, H.out, fun j q hj hq => ?_, by (repeat' (first | (with_reducible exact Below.refl _ _) | (with_reducible assumption) | (with_reducible refine Below.alloc ?_ ?_ _) | (with_reducible refine Below.drew ?_) | (with_reducible refine Below.setCell ?_ ?_ _) | (refine Below.trans ?_ (Below.mono (by with_reducible assumption) ?_)) | go_size))⟩
          obtain rfl : j = 0 := by omega
          have := HP.out.symm.trans hq
          cases this
          exact hm
        case measure => simp [intOf]; omega
      · obtain ⟨b', o', q, hA, _, hq, r0, r1, r2⟩ := (hL.below hbw).piece (k := j) (by omega)
        cases hA
        have HQ := Lib.hid hq
        clear hq
        have hmq := mayP_iff.1 (HA.out j q (by omega) HQ.out)
        have e1 : IntKind.i64.wrap (q.base + q.len) = q.base + q.len := IntWalk.i64_in _ (by omega)
        have e2 : IntKind.i64.wrap (j : Int) = (j : Int) := IntWalk.i64_in _ (by omega)
        have e3 : decide (0 < ((j + 1 : Nat) : Int)) = true := decide_eq_true (by omega)
        have e5 : IntKind.i64.wrap (q.state + p.state) = q.state + p.state := IntWalk.i64_in _ (by omega)
        have e4 : (0 ≤ (j : Int) ∧ (j : Int) < xs.length) := by omega
        cases h1 : (q.base + q.len != p.base)
        · cases h2 : (q.state + p.state == 0)
          · have hbad : badP q p = false := by
              have h4 := beq_eq_false_iff_ne.1 h2
              unfold badP; rw [h1]; simp only [Bool.false_or, Bool.and_eq_false_iff, beq_eq_false_iff_ne]; omega
            have H := Lib.hid (HF.out.trans (heapFrom_ok HQ.out HP.out hm hbad))
            go_wp2_with (go_at_call 56; (with_reducible refine (r_outside _ _ _ _).mono ?_); rintro e w1 ⟨rfl, rfl⟩)
            (refine wp_region_kept (w0 := wr) (bs := [#[.int .i64 p.base, .int .i64 p.len, .int .i64 p.state]]) (by kernel_rfl) (by kernel_rfl) (Kept.mk1 (by (repeat' (first | (with_reducible exact Below.refl _ _) | (with_reducible assumption) | (with_reducible refine Below.alloc ?_ ?_ _) | (with_reducible refine Below.drew ?_) | (with_reducible refine Below.setCell ?_ ?_ _) | (refine Below.trans ?_ (Below.mono (by with_reducible assumption) ?_)) | go_size))) (by go_size) (fun o => by simp [go_sem, *]) (fun o => by simp [go_sem, *])) ?_; (repeat (first | go_big_quiet_skip | (go_big_quiet_want; first | (refine BigFrame.quiet_move _ rfl ?_; (simp only [Act.put, Act.eval, Array.getD_eq_getD_getElem?, List.getElem?_toArray, List.getElem?_cons_zero, List.getElem?_cons_succ, Option.getD_some, List.setIfInBounds_toArray, List.set_cons_zero, List.set_cons_succ]); go_big_quiet_on) | (refine BigFrame.quiet_assign _ rfl ?_; (simp only [Act.put, Act.eval, Array.getD_eq_getD_getElem?, List.getElem?_toArray, List.getElem?_cons_zero, List.getElem?_cons_succ, Option.getD_some, List.setIfInBounds_toArray, List.set_cons_zero, List.set_cons_succ]); go_big_quiet_on) | (apply quiet_call; (focus (intro W; go_simp; constructor <;> with_reducible rfl)); (focus (intro W hW; first | fail)); (simp only [Act.put, Act.eval, Array.getD_eq_getD_getElem?, List.getElem?_toArray, List.getElem?_cons_zero, List.getElem?_cons_succ, Option.getD_some, List.setIfInBounds_toArray, List.set_cons_zero, List.set_cons_succ]); go_big_quiet_on) | (apply quiet_run; (focus (intro W hW; obtain ⟨hB, hS, hC, hF⟩ := hW; have c0 := hC 0 _ rfl; have f0 := hF 0 _ rfl; clear hC hF; (try simp only [Nat.add_zero] at c0 f0); (try simp only [List.length_cons, List.length_nil] at hS); have s0 := (hB.cell (p := ⟨b, o + j * 3, none⟩) hbr).trans r0; have s1 := (hB.cell (p := ⟨b, o + j * 3 + 1, none⟩) hbr).trans r1; have s2 := (hB.cell (p := ⟨b, o + j * 3 + 2, none⟩) hbr).trans r2; go_simp; first | done | with_reducible rfl)); (simp only [Act.put, Act.eval, Array.getD_eq_getD_getElem?, List.getElem?_toArray, List.getElem?_cons_zero, List.getElem?_cons_succ, Option.getD_some, List.setIfInBounds_toArray, List.set_cons_zero, List.set_cons_succ]); go_big_quiet_on)))); refine wpQuiet_nil ?_; intro w2 hW; obtain ⟨hB, hS, hC, hF⟩ := hW; have c0 := hC 0 _ rfl; have f0 := hF 0 _ rfl; clear hC hF; (try simp only [Nat.add_zero] at c0 f0); (try simp only [List.length_cons, List.length_nil] at hS); have s0 := (hB.cell (p := ⟨b, o + j * 3, none⟩) hbr).trans r0; have s1 := (hB.cell (p := ⟨b, o + j * 3 + 1, none⟩) hbr).trans r1; have s2 := (hB.cell (p := ⟨b, o + j * 3 + 2, none⟩) hbr).trans r2)
            go_wp2
            go_roundw
            case rel =>
              refine ⟨j + 2, by go_num, by omega, H.out, fun i r hj hq => ?_, by (repeat' (first | (with_reducible exact Below.refl _ _) | (with_reducible assumption) | (with_reducible refine Below.alloc ?_ ?_ _) | (with_reducible refine Below.drew ?_) | (with_reducible refine Below.setCell ?_ ?_ _) | (refine Below.trans ?_ (Below.mono (by with_reducible assumption) ?_)) | go_size))⟩
              rcases Nat.lt_or_ge i (j + 1) with hl | hl
              · exact HA.out i r hl hq
              · obtain rfl : i = j + 1 := by omega
                have := HP.out.symm.trans hq
                cases this
                exact hm
            case measure => simp [intOf]; omega
          · have hbad : badP q p = true := by
              have h4 := eq_of_beq h2
              unfold badP; rw [h1]; simp only [Bool.false_or, Bool.and_eq_true, beq_iff_eq]; omega
            have H := Lib.hid (HF.out.trans (heapFrom_bad HQ.out HP.out hm hbad))
            go_wp2_with (go_at_call 56; (with_reducible refine (r_outside _ _ _ _).mono ?_); rintro e w1 ⟨rfl, rfl⟩)
            (refine wp_region_kept (w0 := wr) (bs := [#[.int .i64 p.base, .int .i64 p.len, .int .i64 p.state]]) (by kernel_rfl) (by kernel_rfl) (Kept.mk1 (by (repeat' (first | (with_reducible exact Below.refl _ _) | (with_reducible assumption) | (with_reducible refine Below.alloc ?_ ?_ _) | (with_reducible refine Below.drew ?_) | (with_reducible refine Below.setCell ?_ ?_ _) | (refine Below.trans ?_ (Below.mono (by with_reducible assumption) ?_)) | go_size))) (by go_size) (fun o => by simp [go_sem, *]) (fun o => by simp [go_sem, *])) ?_; (repeat (first | go_big_quiet_skip | (go_big_quiet_want; first | (refine BigFrame.quiet_move _ rfl ?_; (simp only [Act.put, Act.eval, Array.getD_eq_getD_getElem?, List.getElem?_toArray, List.getElem?_cons_zero, List.getElem?_cons_succ, Option.getD_some, List.setIfInBounds_toArray, List.set_cons_zero, List.set_cons_succ]); go_big_quiet_on) | (refine BigFrame.quiet_assign _ rfl ?_; (simp only [Act.put, Act.eval, Array.getD_eq_getD_getElem?, List.getElem?_toArray, List.getElem?_cons_zero, List.getElem?_cons_succ, Option.getD_some, List.setIfInBounds_toArray, List.set_cons_zero, List.set_cons_succ]); go_big_quiet_on) | (apply quiet_call; (focus (intro W; go_simp; constructor <;> with_reducible rfl)); (focus (intro W hW; first | fail)); (simp only [Act.put, Act.eval, Array.getD_eq_getD_getElem?, List.getElem?_toArray, List.getElem?_cons_zero, List.getElem?_cons_succ, Option.getD_some, List.setIfInBounds_toArray, List.set_cons_zero, List.set_cons_succ]); go_big_quiet_on) | (apply quiet_run; (focus (intro W hW; obtain ⟨hB, hS, hC, hF⟩ := hW; have c0 := hC 0 _ rfl; have f0 := hF 0 _ rfl; clear hC hF; (try simp only [Nat.add_zero] at c0 f0); (try simp only [List.length_cons, List.length_nil] at hS); have s0 := (hB.cell (p := ⟨b, o + j * 3, none⟩) hbr).trans r0; have s1 := (hB.cell (p := ⟨b, o + j * 3 + 1, none⟩) hbr).trans r1; have s2 := (hB.cell (p := ⟨b, o + j * 3 + 2, none⟩) hbr).trans r2; go_simp; first | done | with_reducible rfl)); (simp only [Act.put, Act.eval, Array.getD_eq_getD_getElem?, List.getElem?_toArray, List.getElem?_cons_zero, List.getElem?_cons_succ, Option.getD_some, List.setIfInBounds_toArray, List.set_cons_zero, List.set_cons_succ]); go_big_quiet_on)))); refine wpQuiet_nil ?_; intro w2 hW; obtain ⟨hB, hS, hC, hF⟩ := hW; have c0 := hC 0 _ rfl; have f0 := hF 0 _ rfl; clear hC hF; (try simp only [Nat.add_zero] at c0 f0); (try simp only [List.length_cons, List.length_nil] at hS); have s0 := (hB.cell (p := ⟨b, o + j * 3, none⟩) hbr).trans r0; have s1 := (hB.cell (p := ⟨b, o + j * 3 + 1, none⟩) hbr).trans r1; have s2 := (hB.cell (p := ⟨b, o + j * 3 + 2, none⟩) hbr).trans r2)
            go_wp2
            go_returns
            exact Ret.int H.out.symm (by (repeat' (first | (with_reducible exact Below.refl _ _) | (with_reducible assumption) | (with_reducible refine Below.alloc ?_ ?_ _) | (with_reducible refine Below.drew ?_) | (with_reducible refine Below.setCell ?_ ?_ _) | (refine Below.trans ?_ (Below.mono (by with_reducible assumption) ?_)) | go_size)))
        · have hbad : badP q p = true := by unfold badP; rw [h1]; rfl
          have H := Lib.hid (HF.out.trans (heapFrom_bad HQ.out HP.out hm hbad))
          go_wp2_with (go_at_call 56; (with_reducible refine (r_outside _ _ _ _).mono ?_); rintro e w1 ⟨rfl, rfl⟩)
          (refine wp_region_kept (w0 := wr) (bs := [#[.int .i64 p.base, .int .i64 p.len, .int .i64 p.state]]) (by kernel_rfl) (by kernel_rfl) (Kept.mk1 (by (repeat' (first | (with_reducible exact Below.refl _ _) | (with_reducible assumption) | (with_reducible refine Below.alloc ?_ ?_ _) | (with_reducible refine Below.drew ?_) | (with_reducible refine Below.setCell ?_ ?_ _) | (refine Below.trans ?_ (Below.mono (by with_reducible assumption) ?_)) | go_size))) (by go_size) (fun o => by simp [go_sem, *]) (fun o => by simp [go_sem, *])) ?_; (repeat (first | go_big_quiet_skip | (go_big_quiet_want; first | (refine BigFrame.quiet_move _ rfl ?_; (simp only [Act.put, Act.eval, Array.getD_eq_getD_getElem?, List.getElem?_toArray, List.getElem?_cons_zero, List.getElem?_cons_succ, Option.getD_some, List.setIfInBounds_toArray, List.set_cons_zero, List.set_cons_succ]); go_big_quiet_on) | (refine BigFrame.quiet_assign _ rfl ?_; (simp only [Act.put, Act.eval, Array.getD_eq_getD_getElem?, List.getElem?_toArray, List.getElem?_cons_zero, List.getElem?_cons_succ, Option.getD_some, List.setIfInBounds_toArray, List.set_cons_zero, List.set_cons_succ]); go_big_quiet_on) | (apply quiet_call; (focus (intro W; go_simp; constructor <;> with_reducible rfl)); (focus (intro W hW; first | fail)); (simp only [Act.put, Act.eval, Array.getD_eq_getD_getElem?, List.getElem?_toArray, List.getElem?_cons_zero, List.getElem?_cons_succ, Option.getD_some, List.setIfInBounds_toArray, List.set_cons_zero, List.set_cons_succ]); go_big_quiet_on) | (apply quiet_run; (focus (intro W hW; obtain ⟨hB, hS, hC, hF⟩ := hW; have c0 := hC 0 _ rfl; have f0 := hF 0 _ rfl; clear hC hF; (try simp only [Nat.add_zero] at c0 f0); (try simp only [List.length_cons, List.length_nil] at hS); have s0 := (hB.cell (p := ⟨b, o + j * 3, none⟩) hbr).trans r0; have s1 := (hB.cell (p := ⟨b, o + j * 3 + 1, none⟩) hbr).trans r1; have s2 := (hB.cell (p := ⟨b, o + j * 3 + 2, none⟩) hbr).trans r2; go_simp; first | done | with_reducible rfl)); (simp only [Act.put, Act.eval, Array.getD_eq_getD_getElem?, List.getElem?_toArray, List.getElem?_cons_zero, List.getElem?_cons_succ, Option.getD_some, List.setIfInBounds_toArray, List.set_cons_zero, List.set_cons_succ]); go_big_quiet_on)))); refine wpQuiet_nil ?_; intro w2 hW; obtain ⟨hB, hS, hC, hF⟩ := hW; have c0 := hC 0 _ rfl; have f0 := hF 0 _ rfl; clear hC hF; (try simp only [Nat.add_zero] at c0 f0); (try simp only [List.length_cons, List.length_nil] at hS); have s0 := (hB.cell (p := ⟨b, o + j * 3, none⟩) hbr).trans r0; have s1 := (hB.cell (p := ⟨b, o + j * 3 + 1, none⟩) hbr).trans r1; have s2 := (hB.cell (p := ⟨b, o + j * 3 + 2, none⟩) hbr).trans r2)
          go_wp2
          go_returns
          exact Ret.int H.out.symm (by (repeat' (first | (with_reducible exact Below.refl _ _) | (with_reducible assumption) | (with_reducible refine Below.alloc ?_ ?_ _) | (with_reducible refine Below.drew ?_) | (with_reducible refine Below.setCell ?_ ?_ _) | (refine Below.trans ?_ (Below.mono (by with_reducible assumption) ?_)) | go_size)))
    · have H := Lib.hid (HF.out.trans (heapFrom_end hge))
      go_wp2
      go_returns
      exact Ret.int H.out.symm (by (repeat' (first | (with_reducible exact Below.refl _ _) | (with_reducible assumption) | (with_reducible refine Below.alloc ?_ ?_ _) | (with_reducible refine Below.drew ?_) | (with_reducible refine Below.setCell ?_ ?_ _) | (refine Below.trans ?_ (Below.mono (by with_reducible assumption) ?_)) | go_size)))
end Go.Proofs.Ytmalaomcolgfcaa
