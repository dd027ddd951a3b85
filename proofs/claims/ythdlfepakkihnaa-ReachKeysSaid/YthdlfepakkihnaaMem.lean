/- The contracts of mem.Check and of its reference, over slices of values: each returns a plain function of its values. Conditions: the numbers are numbers of 64 bits. -/
import Derived.Test.YthdlfepakkihnaaCell
import Derived.Test.YthdlfepakkihnaaLies
import Derived.Laws.MakeOwn
namespace Go.Proofs.Ythdlfepakkihnaa
open Go.RowKit
set_option linter.unusedVariables false
set_option linter.unusedSimpArgs false
set_option maxRecDepth 100000

theorem Lies.val {w : World} {B k : Nat} {A : Option Addr} {xs : List Val} (h : Lies encV 7 w B A xs) (hk : k < xs.length) : ∃ b o v, A = some ⟨b, o, none⟩ ∧ b < B ∧ xs[k]? = some v ∧ w.cell? ⟨b, o + k * 7, none⟩ = some (.bool v.is) ∧ w.cell? ⟨b, o + k * 7 + 1, none⟩ = some (.int .i64 v.n)
    ∧ w.cell? ⟨b, o + k * 7 + 2, none⟩ = some (.int .i64 v.key.perm) ∧ w.cell? ⟨b, o + k * 7 + 3, none⟩ = some (.int .i64 v.key.base) ∧ w.cell? ⟨b, o + k * 7 + 4, none⟩ = some (.int .i64 v.key.len) ∧ w.cell? ⟨b, o + k * 7 + 5, none⟩ = some (.int .i64 v.key.pos) ∧ w.cell? ⟨b, o + k * 7 + 6, none⟩ = some (.int .i64 v.key.tag) := by
  obtain ⟨b, o, p, hA, hb, hp, hc⟩ := h.at_ hk
  exact ⟨b, o, p, hA, hb, hp, hc 0 (by omega), hc 1 (by omega), hc 2 (by omega), hc 3 (by omega), hc 4 (by omega), hc 5 (by omega), hc 6 (by omega)⟩
theorem dropAt {α : Type} {l : List α} {k : Nat} {p : α} (h : l[k]? = some p) : l.drop k = p :: l.drop (k + 1) := by
  obtain ⟨hk, he⟩ := List.getElem?_eq_some_iff.1 h
  rw [List.drop_eq_getElem_cons hk, he]
/-- the first error of a list's parts, or none -/
def firstE {α : Type} (f : α → Int) : List α → Int
  | [] => 0
  | v :: l => if (f v != 0) = true then f v else firstE f l
/-- what is left from k on -/
def firstFrom {α : Type} (f : α → Int) (l : List α) (k : Nat) : Int := firstE f (l.drop k)
theorem firstFrom_end {α : Type} {f : α → Int} {l : List α} {k : Nat} (h : l.length ≤ k) : firstFrom f l k = 0 := by
  unfold firstFrom; rw [List.drop_eq_nil_of_le h]; rfl
theorem firstFrom_no {α : Type} {f : α → Int} {l : List α} {k : Nat} {v : α} (h : l[k]? = some v) (hv : (f v != 0) = true) : firstFrom f l k = f v := by
  unfold firstFrom; rw [dropAt h]; simp only [firstE, hv, if_true]
theorem firstFrom_ok {α : Type} {f : α → Int} {l : List α} {k : Nat} {v : α} (h : l[k]? = some v) (hv : (f v != 0) = false) : firstFrom f l k = firstFrom f l (k + 1) := by
  unfold firstFrom; rw [dropAt h]; simp [firstE, hv]
/-- Check of a memory -/
def memE (l : List Val) : Int := if 400 < l.length then 2 else firstE valE l

theorem info_val : (Try.prog.info? 25).map (fun i => (i.zero, i.size, i.bytes)) = some (some (.agg #[.bool false, .int .i64 0, .int .i64 0, .int .i64 0, .int .i64 0, .int .i64 0, .int .i64 0]), 7, 56) := by kernel_rfl
/-- 401 values are made: what they are is of no matter -/
theorem make_401 : ∃ cs : Array Value, ∀ w : World, (Instr.makeSlice 27 (.int .i64 401) (.int .i64 401)).run Try.prog w = .ok (.slice (some ⟨w.heap.size, 0, none⟩) 401 401) (w.alloc (.cells cs 25)) := by
  obtain ⟨i0, hi, hz0, hz1, hz2⟩ := info_parts info_val
  exact ⟨_, fun w => run_make w _ _ i0 _ Try.underlying27 hi hz0 .i64 .i64 401 401 (by omega) (by omega) (by rw [hz2]; omega) (by omega)⟩
theorem c_mem_Check_large (A : Option Addr) (n c : Nat) (w : World) (hn : 400 < n) :
    Calls Try.prog 93 #[.slice A n c] w (Ret (.int .i64 2) w) := by
  go_enter Try.func93, Try.ntmps93
  go_wp2
  go_returns
  exact Ret.int rfl (by (repeat' (first | (with_reducible exact Below.refl _ _) | (with_reducible assumption) | (with_reducible refine Below.alloc ?_ ?_ _) | (with_reducible refine Below.drew ?_) | (with_reducible refine Below.setCell ?_ ?_ _) | (refine Below.trans ?_ (Below.mono (by with_reducible assumption) ?_)) | go_size)))
set_option maxHeartbeats 1000000 in
theorem c_mem_Check (A : Option Addr) (c : Nat) (xs : List Val) (w : World) (hL : Lies encV 7 w w.heap.size A xs) :
    Calls Try.prog 93 #[.slice A xs.length c] w (Ret (.int .i64 (memE xs)) w) := by
  by_cases hn : 400 < xs.length
  · have := c_mem_Check_large A xs.length c w hn
    rwa [show memE xs = 2 by simp [memE, hn]]
  have HE := Lib.hid (show memE xs = firstFrom valE xs 0 by simp [memE, hn, firstFrom])
  have hn' : xs.length ≤ 400 := by omega
  clear hn
  go_enter Try.func93, Try.ntmps93
  go_wp2
  go_loopw [11] (fun v wr => ∃ k : Nat, v = .int .i64 k ∧ k ≤ xs.length ∧ memE xs = firstFrom valE xs k ∧ Below w.heap.size w wr) (fun v _ => (xs.length - intOf v).toNat)
  case atStart => exact ⟨0, rfl, by omega, HE.out, by (repeat' (first | (with_reducible exact Below.refl _ _) | (with_reducible assumption) | (with_reducible refine Below.alloc ?_ ?_ _) | (with_reducible refine Below.drew ?_) | (with_reducible refine Below.setCell ?_ ?_ _) | (refine Below.trans ?_ (Below.mono (by with_reducible assumption) ?_)) | go_size))⟩
  case round =>
    obtain ⟨k, rfl, hk, he, hbw⟩ := hrel
    have hbz := hbw.size
    have HF := Lib.hid he
    clear he
    rcases Nat.lt_or_ge k xs.length with hlt | hge
    · obtain ⟨b, o, v, rfl, hb, hp, q0, q1, q2, q3, q4, q5, q6⟩ := (hL.below hbw).val hlt
      have HP := Lib.hid hp
      clear hp
      cases hm : (valE v != 0)
      · have H := Lib.hid (HF.out.trans (firstFrom_ok HP.out hm))
        go_wp2_with (go_at_call 91; (with_reducible refine (c_cell_Check v _).mono ?_); intro e w1 hr; obtain ⟨rfl, hb, hc, hf, hz⟩ := hr.use; (try simp only [World.size_alloc, World.size_setCell, World.size_drew] at hz); clear hr; have c0 := fun o => hc (wr.heap.size) o (by (try simp only [World.size_alloc, World.size_setCell, World.size_drew]); omega); have f0 := fun o => hf (wr.heap.size) o (by (try simp only [World.size_alloc, World.size_setCell, World.size_drew]); omega); have z0 : wr.heap.size < w1.heap.size := (by (try simp only [World.size_alloc, World.size_setCell, World.size_drew]); omega); clear hc hf; simp only [go_sem, World.size_alloc, *] at c0 f0)
        go_roundw
        case rel => exact ⟨k + 1, by go_num, by omega, H.out, by (repeat' (first | (with_reducible exact Below.refl _ _) | (with_reducible assumption) | (with_reducible refine Below.alloc ?_ ?_ _) | (with_reducible refine Below.drew ?_) | (with_reducible refine Below.setCell ?_ ?_ _) | (refine Below.trans ?_ (Below.mono (by with_reducible assumption) ?_)) | go_size))⟩
        case measure => simp [intOf]; omega
      · have H := Lib.hid (HF.out.trans (firstFrom_no HP.out hm))
        go_wp2_with (go_at_call 91; (with_reducible refine (c_cell_Check v _).mono ?_); intro e w1 hr; obtain ⟨rfl, hb, hc, hf, hz⟩ := hr.use; (try simp only [World.size_alloc, World.size_setCell, World.size_drew] at hz); clear hr; have c0 := fun o => hc (wr.heap.size) o (by (try simp only [World.size_alloc, World.size_setCell, World.size_drew]); omega); have f0 := fun o => hf (wr.heap.size) o (by (try simp only [World.size_alloc, World.size_setCell, World.size_drew]); omega); have z0 : wr.heap.size < w1.heap.size := (by (try simp only [World.size_alloc, World.size_setCell, World.size_drew]); omega); clear hc hf; simp only [go_sem, World.size_alloc, *] at c0 f0)
        go_returns
        exact Ret.int H.out.symm (by (repeat' (first | (with_reducible exact Below.refl _ _) | (with_reducible assumption) | (with_reducible refine Below.alloc ?_ ?_ _) | (with_reducible refine Below.drew ?_) | (with_reducible refine Below.setCell ?_ ?_ _) | (refine Below.trans ?_ (Below.mono (by with_reducible assumption) ?_)) | go_size)))
    · have H := Lib.hid (HF.out.trans (firstFrom_end hge))
      go_wp2
      go_returns
      exact Ret.int H.out.symm (by (repeat' (first | (with_reducible exact Below.refl _ _) | (with_reducible assumption) | (with_reducible refine Below.alloc ?_ ?_ _) | (with_reducible refine Below.drew ?_) | (with_reducible refine Below.setCell ?_ ?_ _) | (refine Below.trans ?_ (Below.mono (by with_reducible assumption) ?_)) | go_size)))
set_option maxHeartbeats 1000000 in
theorem r_MemCheck (A : Option Addr) (c : Nat) (xs : List Val) (w : World) (hwf : ∀ (i : Nat) v, xs[i]? = some v → Val.Wf v) (hL : Lies encV 7 w w.heap.size A xs) :
    Calls Try.prog 29 #[.slice A xs.length c] w (Ret (.int .i64 (memE xs)) w) := by
  have HW := Lib.hid hwf
  clear hwf
  by_cases hn : 400 < xs.length
  · have H := Lib.hid (show memE xs = 2 by simp [memE, hn])
    go_enter Try.func29, Try.ntmps29
    go_wp2
    go_returns
    exact Ret.int H.out.symm (by (repeat' (first | (with_reducible exact Below.refl _ _) | (with_reducible assumption) | (with_reducible refine Below.alloc ?_ ?_ _) | (with_reducible refine Below.drew ?_) | (with_reducible refine Below.setCell ?_ ?_ _) | (refine Below.trans ?_ (Below.mono (by with_reducible assumption) ?_)) | go_size)))
  have HE := Lib.hid (show memE xs = firstFrom valE xs 0 by simp [memE, hn, firstFrom])
  have hn' : xs.length ≤ 400 := by omega
  clear hn
  go_enter Try.func29, Try.ntmps29
  go_wp2
  go_loopw [11] (fun v wr => ∃ k : Nat, v = .int .i64 k ∧ k ≤ xs.length ∧ memE xs = firstFrom valE xs k ∧ Below w.heap.size w wr) (fun v _ => (xs.length - intOf v).toNat)
  case atStart => exact ⟨0, rfl, by omega, HE.out, by (repeat' (first | (with_reducible exact Below.refl _ _) | (with_reducible assumption) | (with_reducible refine Below.alloc ?_ ?_ _) | (with_reducible refine Below.drew ?_) | (with_reducible refine Below.setCell ?_ ?_ _) | (refine Below.trans ?_ (Below.mono (by with_reducible assumption) ?_)) | go_size))⟩
  case round =>
    obtain ⟨k, rfl, hk, he, hbw⟩ := hrel
    have hbz := hbw.size
    have HF := Lib.hid he
    clear he
    rcases Nat.lt_or_ge k xs.length with hlt | hge
    · obtain ⟨b, o, v, rfl, hb, hp, q0, q1, q2, q3, q4, q5, q6⟩ := (hL.below hbw).val hlt
      have HV := Lib.hid (HW.out k v hp)
      have HP := Lib.hid hp
      clear hp
      cases hm : (valE v != 0)
      · have H := Lib.hid (HF.out.trans (firstFrom_ok HP.out hm))
        go_wp2_with (go_at_call 28; (with_reducible refine (r_CellCheck v HV.out _).mono ?_); intro e w1 hr; obtain ⟨rfl, hb, hc, hf, hz⟩ := hr.use; (try simp only [World.size_alloc, World.size_setCell, World.size_drew] at hz); clear hr; have c0 := fun o => hc (wr.heap.size) o (by (try simp only [World.size_alloc, World.size_setCell, World.size_drew]); omega); have f0 := fun o => hf (wr.heap.size) o (by (try simp only [World.size_alloc, World.size_setCell, World.size_drew]); omega); have z0 : wr.heap.size < w1.heap.size := (by (try simp only [World.size_alloc, World.size_setCell, World.size_drew]); omega); clear hc hf; simp only [go_sem, World.size_alloc, *] at c0 f0)
        go_roundw
        case rel => exact ⟨k + 1, by go_num, by omega, H.out, by (repeat' (first | (with_reducible exact Below.refl _ _) | (with_reducible assumption) | (with_reducible refine Below.alloc ?_ ?_ _) | (with_reducible refine Below.drew ?_) | (with_reducible refine Below.setCell ?_ ?_ _) | (refine Below.trans ?_ (Below.mono (by with_reducible assumption) ?_)) | go_size))⟩
        case measure => simp [intOf]; omega
      · have H := Lib.hid (HF.out.trans (firstFrom_no HP.out hm))
        go_wp2_with (go_at_call 28; (with_reducible refine (r_CellCheck v HV.out _).mono ?_); intro e w1 hr; obtain ⟨rfl, hb, hc, hf, hz⟩ := hr.use; (try simp only [World.size_alloc, World.size_setCell, World.size_drew] at hz); clear hr; have c0 := fun o => hc (wr.heap.size) o (by (try simp only [World.size_alloc, World.size_setCell, World.size_drew]); omega); have f0 := fun o => hf (wr.heap.size) o (by (try simp only [World.size_alloc, World.size_setCell, World.size_drew]); omega); have z0 : wr.heap.size < w1.heap.size := (by (try simp only [World.size_alloc, World.size_setCell, World.size_drew]); omega); clear hc hf; simp only [go_sem, World.size_alloc, *] at c0 f0)
        go_returns
        exact Ret.int H.out.symm (by (repeat' (first | (with_reducible exact Below.refl _ _) | (with_reducible assumption) | (with_reducible refine Below.alloc ?_ ?_ _) | (with_reducible refine Below.drew ?_) | (with_reducible refine Below.setCell ?_ ?_ _) | (refine Below.trans ?_ (Below.mono (by with_reducible assumption) ?_)) | go_size)))
    · have H := Lib.hid (HF.out.trans (firstFrom_end hge))
      go_wp2
      go_returns
      exact Ret.int H.out.symm (by (repeat' (first | (with_reducible exact Below.refl _ _) | (with_reducible assumption) | (with_reducible refine Below.alloc ?_ ?_ _) | (with_reducible refine Below.drew ?_) | (with_reducible refine Below.setCell ?_ ?_ _) | (refine Below.trans ?_ (Below.mono (by with_reducible assumption) ?_)) | go_size)))
end Go.Proofs.Ythdlfepakkihnaa
