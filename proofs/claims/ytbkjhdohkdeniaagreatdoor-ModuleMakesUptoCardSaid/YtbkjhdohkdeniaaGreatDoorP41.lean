/- What the parts say: Eq of the reference on numbers and on labels; labels of a text as labels. Conditions: none. -/
import Derived.Test.YtbkjhdohkdeniaaGreatDoorP24
import Derived.Test.YtbkjhdohkdeniaaGreatDoorP37
import Derived.Test.YtbkjhdohkdeniaaGreatDoorP38
import Derived.Test.YtbkjhdohkdeniaaGreatDoorP40
import Derived.Test.YtbkjhdohkdeniaaGreatDoorP27
set_option linter.unusedVariables false
set_option linter.unusedSimpArgs false
namespace Go.Proofs.YtbkjhdohkdeniaaGreatDoor
open Go.RowKit
set_option maxRecDepth 100000
@[go_sem] theorem Label.eta (k : Label) : Label.mk k.name k.pos = k := rfl
theorem Label_eq {x0 : ByteArray} {x1 : Int} {y0 : ByteArray} {y1 : Int} : (Label.mk x0 x1 = Label.mk y0 y1) ↔ (x0 = y0 ∧ x1 = y1) := ⟨fun h => Label.ext_iff'.2 h, fun h => Label.ext_iff'.1 h⟩
theorem eqf_Label (d : Nat) (a0 : ByteArray) (a1 : Int) (b0 : ByteArray) (b1 : Int) (w : World) : (Op.equalIn (d + 4) 47 (.agg #[.string a0, .int .i64 a1]) (.agg #[.string b0, .int .i64 b1])).run Tryz.prog w = .ok (decide ((Label.mk a0 a1) = (Label.mk b0 b1))) w := by
  rw [run_equalIn_struct _ _ _ _ _ rfl (by kernel_rfl)]
  simp [go_sem, Label_eq, str_beq]
  repeat' split
  all_goals simp_all
@[go_sem high] theorem eql_Label (a0 : ByteArray) (a1 : Int) (b0 : ByteArray) (b1 : Int) (w : World) : (binOp .eql 47 (.agg #[.string a0, .int .i64 a1]) (.agg #[.string b0, .int .i64 b1])).run Tryz.prog w = .ok (.bool (decide ((Label.mk a0 a1) = (Label.mk b0 b1)))) w := by
  rw [run_eql_struct, eqf_Label 9996]
  rfl
@[go_sem high] theorem neq_Label (a0 : ByteArray) (a1 : Int) (b0 : ByteArray) (b1 : Int) (w : World) : (binOp .neq 47 (.agg #[.string a0, .int .i64 a1]) (.agg #[.string b0, .int .i64 b1])).run Tryz.prog w = .ok (.bool (!(decide ((Label.mk a0 a1) = (Label.mk b0 b1))))) w := by
  rw [run_neq_struct, eqf_Label 9996]
  rfl
set_option maxHeartbeats 4000000 in
theorem r_Eq_I (A A' : Option Addr) (c c' : Nat) (xs ys : List Int) (w : World) (hx : xs.length < 9223372036854775807) (hL : Lies encI 1 w w.heap.size A xs) (hM : Lies encI 1 w w.heap.size A' ys) :
    Calls Tryz.prog 12 #[.slice A xs.length c, .slice A' ys.length c'] w (Ret (.bool (decide (xs = ys))) w) := by
  by_cases hl : xs.length = ys.length
  · go_enter Tryz.func12, Tryz.ntmps12
    go_wp2
    go_loopw [14] (fun v wr => ∃ k : Nat, v = .int .i64 k ∧ k ≤ xs.length ∧ (∀ j, j < k → xs[j]? = ys[j]?) ∧ Below w.heap.size w wr) (fun v _ => (xs.length - intOf v).toNat)
    case atStart => exact ⟨0, rfl, by omega, fun j hj => by omega, by (repeat' (first | (with_reducible exact Below.refl _ _) | (with_reducible assumption) | (with_reducible refine Below.alloc ?_ ?_ _) | (with_reducible refine Below.drew ?_) | (with_reducible refine Below.setCell ?_ ?_ _) | (refine Below.trans ?_ (Below.mono (by with_reducible assumption) ?_)) | go_size))⟩
    case round =>
      obtain ⟨k, rfl, hk, hall, hbw⟩ := hrel
      have hbz := hbw.size
      have HA := Lib.hid hall
      clear hall
      rcases Nat.lt_or_ge k xs.length with hlt | hge
      · obtain ⟨b, o, p, rfl, hb, hp, q0⟩ := (hL.below hbw).cellsI hlt
        obtain ⟨b', o', q, rfl, hb', hq, r0⟩ := (hM.below hbw).cellsI (k := k) (by omega)
        have HP := Lib.hid hp
        have HQ := Lib.hid hq
        clear hp hq
        have hbr : b' < wr.heap.size := by omega
        have hbq : b < wr.heap.size := by omega
        have e4 : (0 ≤ (k : Int) ∧ (k : Int) < ys.length) := by omega
        cases hd : (p == q)
        · have H := Lib.hid (show decide (xs = ys) = false from decide_eq_false fun h => by
            rw [h, HQ.out] at HP
            exact (show ¬ p = q from by simpa using hd) (Option.some.inj HP.out).symm)
          go_wp2
          go_returns
          exact Ret.bool H.out.symm (by (repeat' (first | (with_reducible exact Below.refl _ _) | (with_reducible assumption) | (with_reducible refine Below.alloc ?_ ?_ _) | (with_reducible refine Below.drew ?_) | (with_reducible refine Below.setCell ?_ ?_ _) | (refine Below.trans ?_ (Below.mono (by with_reducible assumption) ?_)) | go_size)))
        · have H := Lib.hid (show p = q from by simpa using hd)
          go_wp2
          go_roundw
          case rel =>
            refine ⟨k + 1, by go_num, by omega, fun j hj => ?_, by (repeat' (first | (with_reducible exact Below.refl _ _) | (with_reducible assumption) | (with_reducible refine Below.alloc ?_ ?_ _) | (with_reducible refine Below.drew ?_) | (with_reducible refine Below.setCell ?_ ?_ _) | (refine Below.trans ?_ (Below.mono (by with_reducible assumption) ?_)) | go_size))⟩
            rcases Nat.lt_or_ge j k with h | h
            · exact HA.out j h
            · obtain rfl : j = k := by omega
              rw [HP.out, HQ.out, H.out]
          case measure => simp [intOf]; omega
      · have H := Lib.hid (show decide (xs = ys) = true from decide_eq_true (eqOfAll hl fun j hj => HA.out j (by omega)))
        go_wp2
        go_returns
        exact Ret.bool H.out.symm (by (repeat' (first | (with_reducible exact Below.refl _ _) | (with_reducible assumption) | (with_reducible refine Below.alloc ?_ ?_ _) | (with_reducible refine Below.drew ?_) | (with_reducible refine Below.setCell ?_ ?_ _) | (refine Below.trans ?_ (Below.mono (by with_reducible assumption) ?_)) | go_size)))
  · have H := Lib.hid (show decide (xs = ys) = false from decide_eq_false fun h => hl (by rw [h]))
    have hl' : ¬((xs.length : Int) = ys.length) := by omega
    go_enter Tryz.func12, Tryz.ntmps12
    go_wp2
    go_returns
    exact Ret.bool H.out.symm (by (repeat' (first | (with_reducible exact Below.refl _ _) | (with_reducible assumption) | (with_reducible refine Below.alloc ?_ ?_ _) | (with_reducible refine Below.drew ?_) | (with_reducible refine Below.setCell ?_ ?_ _) | (refine Below.trans ?_ (Below.mono (by with_reducible assumption) ?_)) | go_size)))
set_option maxHeartbeats 4000000 in
theorem r_Eq_L (A A' : Option Addr) (c c' : Nat) (xs ys : List Label) (w : World) (hx : xs.length < 9223372036854775807) (hL : Lies encL 2 w w.heap.size A xs) (hM : Lies encL 2 w w.heap.size A' ys) :
    Calls Tryz.prog 13 #[.slice A xs.length c, .slice A' ys.length c'] w (Ret (.bool (decide (xs = ys))) w) := by
  by_cases hl : xs.length = ys.length
  · go_enter Tryz.func13, Tryz.ntmps13
    go_wp2
    go_loopw [14] (fun v wr => ∃ k : Nat, v = .int .i64 k ∧ k ≤ xs.length ∧ (∀ j, j < k → xs[j]? = ys[j]?) ∧ Below w.heap.size w wr) (fun v _ => (xs.length - intOf v).toNat)
    case atStart => exact ⟨0, rfl, by omega, fun j hj => by omega, by (repeat' (first | (with_reducible exact Below.refl _ _) | (with_reducible assumption) | (with_reducible refine Below.alloc ?_ ?_ _) | (with_reducible refine Below.drew ?_) | (with_reducible refine Below.setCell ?_ ?_ _) | (refine Below.trans ?_ (Below.mono (by with_reducible assumption) ?_)) | go_size))⟩
    case round =>
      obtain ⟨k, rfl, hk, hall, hbw⟩ := hrel
      have hbz := hbw.size
      have HA := Lib.hid hall
      clear hall
      rcases Nat.lt_or_ge k xs.length with hlt | hge
      · obtain ⟨b, o, p, rfl, hb, hp, q0, q1⟩ := (hL.below hbw).cellsL hlt
        obtain ⟨b', o', q, rfl, hb', hq, r0, r1⟩ := (hM.below hbw).cellsL (k := k) (by omega)
        have HP := Lib.hid hp
        have HQ := Lib.hid hq
        clear hp hq
        have hbr : b' < wr.heap.size := by omega
        have hbq : b < wr.heap.size := by omega
        have e4 : (0 ≤ (k : Int) ∧ (k : Int) < ys.length) := by omega
        cases hd : decide (p = q)
        · have H := Lib.hid (show decide (xs = ys) = false from decide_eq_false fun h => by
            rw [h, HQ.out] at HP
            exact (show ¬ p = q from of_decide_eq_false hd) (Option.some.inj HP.out).symm)
          go_wp2
          (refine wp_region_kept (w0 := wr) (bs := [#[.string p.name, .int .i64 p.pos]]) (by kernel_rfl) (by kernel_rfl) (Kept.mk1 (by (repeat' (first | (with_reducible exact Below.refl _ _) | (with_reducible assumption) | (with_reducible refine Below.alloc ?_ ?_ _) | (with_reducible refine Below.drew ?_) | (with_reducible refine Below.setCell ?_ ?_ _) | (refine Below.trans ?_ (Below.mono (by with_reducible assumption) ?_)) | go_size))) (by go_size) (fun o => by simp [go_sem, *]) (fun o => by simp [go_sem, *])) ?_; (repeat (first | go_big_quiet_skip | (go_big_quiet_want; first | (refine BigFrame.quiet_move _ rfl ?_; (simp only [Act.put, Act.eval, Array.getD_eq_getD_getElem?, List.getElem?_toArray, List.getElem?_cons_zero, List.getElem?_cons_succ, Option.getD_some, List.setIfInBounds_toArray, List.set_cons_zero, List.set_cons_succ]); go_big_quiet_on) | (refine BigFrame.quiet_assign _ rfl ?_; (simp only [Act.put, Act.eval, Array.getD_eq_getD_getElem?, List.getElem?_toArray, List.getElem?_cons_zero, List.getElem?_cons_succ, Option.getD_some, List.setIfInBounds_toArray, List.set_cons_zero, List.set_cons_succ]); go_big_quiet_on) | (apply quiet_call; (focus (intro W; go_simp; constructor <;> with_reducible rfl)); (focus (intro W hW; first | fail)); (simp only [Act.put, Act.eval, Array.getD_eq_getD_getElem?, List.getElem?_toArray, List.getElem?_cons_zero, List.getElem?_cons_succ, Option.getD_some, List.setIfInBounds_toArray, List.set_cons_zero, List.set_cons_succ]); go_big_quiet_on) | (apply quiet_run; (focus (intro W hW; obtain ⟨hB, hS, hC, hF⟩ := hW; have c0 := hC 0 _ rfl; have f0 := hF 0 _ rfl; clear hC hF; (try simp only [Nat.add_zero] at c0 f0); (try simp only [List.length_cons, List.length_nil] at hS); have s0 := (hB.cell (p := ⟨b', o' + k * 2, none⟩) hbr).trans r0; have s1 := (hB.cell (p := ⟨b', o' + k * 2 + 1, none⟩) hbr).trans r1; go_simp; first | done | with_reducible rfl)); (simp only [Act.put, Act.eval, Array.getD_eq_getD_getElem?, List.getElem?_toArray, List.getElem?_cons_zero, List.getElem?_cons_succ, Option.getD_some, List.setIfInBounds_toArray, List.set_cons_zero, List.set_cons_succ]); go_big_quiet_on)))); refine wpQuiet_nil ?_; intro w2 hW; obtain ⟨hB, hS, hC, hF⟩ := hW; have c0 := hC 0 _ rfl; have f0 := hF 0 _ rfl; clear hC hF; (try simp only [Nat.add_zero] at c0 f0); (try simp only [List.length_cons, List.length_nil] at hS); have s0 := (hB.cell (p := ⟨b', o' + k * 2, none⟩) hbr).trans r0; have s1 := (hB.cell (p := ⟨b', o' + k * 2 + 1, none⟩) hbr).trans r1)
          go_wp2
          go_returns
          exact Ret.bool H.out.symm (by (repeat' (first | (with_reducible exact Below.refl _ _) | (with_reducible assumption) | (with_reducible refine Below.alloc ?_ ?_ _) | (with_reducible refine Below.drew ?_) | (with_reducible refine Below.setCell ?_ ?_ _) | (refine Below.trans ?_ (Below.mono (by with_reducible assumption) ?_)) | go_size)))
        · have H := Lib.hid (show p = q from of_decide_eq_true hd)
          go_wp2
          (refine wp_region_kept (w0 := wr) (bs := [#[.string p.name, .int .i64 p.pos]]) (by kernel_rfl) (by kernel_rfl) (Kept.mk1 (by (repeat' (first | (with_reducible exact Below.refl _ _) | (with_reducible assumption) | (with_reducible refine Below.alloc ?_ ?_ _) | (with_reducible refine Below.drew ?_) | (with_reducible refine Below.setCell ?_ ?_ _) | (refine Below.trans ?_ (Below.mono (by with_reducible assumption) ?_)) | go_size))) (by go_size) (fun o => by simp [go_sem, *]) (fun o => by simp [go_sem, *])) ?_; (repeat (first | go_big_quiet_skip | (go_big_quiet_want; first | (refine BigFrame.quiet_move _ rfl ?_; (simp only [Act.put, Act.eval, Array.getD_eq_getD_getElem?, List.getElem?_toArray, List.getElem?_cons_zero, List.getElem?_cons_succ, Option.getD_some, List.setIfInBounds_toArray, List.set_cons_zero, List.set_cons_succ]); go_big_quiet_on) | (refine BigFrame.quiet_assign _ rfl ?_; (simp only [Act.put, Act.eval, Array.getD_eq_getD_getElem?, List.getElem?_toArray, List.getElem?_cons_zero, List.getElem?_cons_succ, Option.getD_some, List.setIfInBounds_toArray, List.set_cons_zero, List.set_cons_succ]); go_big_quiet_on) | (apply quiet_call; (focus (intro W; go_simp; constructor <;> with_reducible rfl)); (focus (intro W hW; first | fail)); (simp only [Act.put, Act.eval, Array.getD_eq_getD_getElem?, List.getElem?_toArray, List.getElem?_cons_zero, List.getElem?_cons_succ, Option.getD_some, List.setIfInBounds_toArray, List.set_cons_zero, List.set_cons_succ]); go_big_quiet_on) | (apply quiet_run; (focus (intro W hW; obtain ⟨hB, hS, hC, hF⟩ := hW; have c0 := hC 0 _ rfl; have f0 := hF 0 _ rfl; clear hC hF; (try simp only [Nat.add_zero] at c0 f0); (try simp only [List.length_cons, List.length_nil] at hS); have s0 := (hB.cell (p := ⟨b', o' + k * 2, none⟩) hbr).trans r0; have s1 := (hB.cell (p := ⟨b', o' + k * 2 + 1, none⟩) hbr).trans r1; go_simp; first | done | with_reducible rfl)); (simp only [Act.put, Act.eval, Array.getD_eq_getD_getElem?, List.getElem?_toArray, List.getElem?_cons_zero, List.getElem?_cons_succ, Option.getD_some, List.setIfInBounds_toArray, List.set_cons_zero, List.set_cons_succ]); go_big_quiet_on)))); refine wpQuiet_nil ?_; intro w2 hW; obtain ⟨hB, hS, hC, hF⟩ := hW; have c0 := hC 0 _ rfl; have f0 := hF 0 _ rfl; clear hC hF; (try simp only [Nat.add_zero] at c0 f0); (try simp only [List.length_cons, List.length_nil] at hS); have s0 := (hB.cell (p := ⟨b', o' + k * 2, none⟩) hbr).trans r0; have s1 := (hB.cell (p := ⟨b', o' + k * 2 + 1, none⟩) hbr).trans r1)
          go_wp2
          go_roundw
          case rel =>
            refine ⟨k + 1, by go_num, by omega, fun j hj => ?_, by (repeat' (first | (with_reducible exact Below.refl _ _) | (with_reducible assumption) | (with_reducible refine Below.alloc ?_ ?_ _) | (with_reducible refine Below.drew ?_) | (with_reducible refine Below.setCell ?_ ?_ _) | (refine Below.trans ?_ (Below.mono (by with_reducible assumption) ?_)) | go_size))⟩
            rcases Nat.lt_or_ge j k with h | h
            · exact HA.out j h
            · obtain rfl : j = k := by omega
              rw [HP.out, HQ.out, H.out]
          case measure => simp [intOf]; omega
      · have H := Lib.hid (show decide (xs = ys) = true from decide_eq_true (eqOfAll hl fun j hj => HA.out j (by omega)))
        go_wp2
        go_returns
        exact Ret.bool H.out.symm (by (repeat' (first | (with_reducible exact Below.refl _ _) | (with_reducible assumption) | (with_reducible refine Below.alloc ?_ ?_ _) | (with_reducible refine Below.drew ?_) | (with_reducible refine Below.setCell ?_ ?_ _) | (refine Below.trans ?_ (Below.mono (by with_reducible assumption) ?_)) | go_size)))
  · have H := Lib.hid (show decide (xs = ys) = false from decide_eq_false fun h => hl (by rw [h]))
    have hl' : ¬((xs.length : Int) = ys.length) := by omega
    go_enter Tryz.func13, Tryz.ntmps13
    go_wp2
    go_returns
    exact Ret.bool H.out.symm (by (repeat' (first | (with_reducible exact Below.refl _ _) | (with_reducible assumption) | (with_reducible refine Below.alloc ?_ ?_ _) | (with_reducible refine Below.drew ?_) | (with_reducible refine Below.setCell ?_ ?_ _) | (refine Below.trans ?_ (Below.mono (by with_reducible assumption) ?_)) | go_size)))
def toLabel (x : Lab) : Label := ⟨str x.name, x.pos⟩
theorem toLabel_len (l : List Lab) : (l.map toLabel).length = l.length := List.length_map _
theorem Lies.labs {w : World} {B : Nat} {A : Option Addr} {xs : List Lab} (h : Lies encLab 2 w B A xs) : Lies encL 2 w B A (xs.map toLabel) := fun hn => by
  obtain ⟨b, o, hA, hb, hc⟩ := h (by intro e; subst e; exact hn rfl)
  refine ⟨b, o, hA, hb, fun k y hy j hj => ?_⟩
  rw [List.getElem?_map] at hy
  cases hx : xs[k]? with
  | none => rw [hx] at hy; cases hy
  | some x =>
    rw [hx] at hy
    obtain rfl : toLabel x = y := Option.some.inj hy
    exact hc k x hx j hj
theorem run2_len {ls : List Lab} : ∀ {ks : List LineK} {code c : List Int} {n : Int}, run2 ls ks code n = .inr c → c.length ≤ code.length + ks.length := by
  intro ks
  induction ks with
  | nil => intro code c n h; cases h; simp
  | cons k ks ih =>
    intro code c n h
    cases k with
    | cell v => have := ih h; simp only [List.length_append, List.length_cons, List.length_nil] at this ⊢; omega
    | hole i nm =>
      simp only [run2] at h
      split at h
      · cases h
      · split at h
        · have := ih h; simp only [List.length_append, List.length_cons, List.length_nil] at this ⊢; omega
        · cases h
    | large => have := ih h; simp only [List.length_cons]; omega
    | empty => have := ih h; simp only [List.length_cons]; omega
    | bad => have := ih h; simp only [List.length_cons]; omega
    | label nm => have := ih h; simp only [List.length_cons]; omega
theorem run1_len : ∀ {ks : List LineK} {st : St1} {n : Int} {ls : List Lab}, run1 ks st n = .inr ls → ls.length ≤ st.labs.length + ks.length := by
  intro ks
  induction ks with
  | nil => intro st n ls h; cases h; simp
  | cons k ks ih =>
    intro st n ls h
    simp only [run1] at h
    split at h
    · cases h
    · have := ih h
      have h2 : (step1 st k).labs.length ≤ st.labs.length + 1 := by cases k <;> simp [step1]
      simp only [List.length_cons]; omega
theorem progR_len (s : List UInt8) : (progR s).code.length ≤ 150 ∧ (progR s).labs.length ≤ 150 := by
  unfold progR
  split
  · exact ⟨by simp, by simp⟩
  · rename_i h
    unfold progL
    cases h1 : run1 ((splitL 10 s).map lineK) ⟨0, []⟩ 0 with
    | inl x => exact ⟨by simp, by simp⟩
    | inr ls =>
      dsimp only
      have hl := run1_len h1
      cases h2 : run2 ls ((splitL 10 s).map lineK) [] 0 with
      | inl x => exact ⟨by simp, by simp⟩
      | inr code =>
        have hc := run2_len h2
        simp only [List.length_map, List.length_nil] at hl hc
        dsimp only
        omega
end Go.Proofs.YtbkjhdohkdeniaaGreatDoor
namespace Go.Proofs.YtbkjhdohkdeniaaGreatDoor
open Go.RowKit
set_option maxRecDepth 100000
def mzero : Mod := ⟨[], [], [], []⟩
def makeM (p : ProgR) (data : List Int) (imp : List Import) : Mod := ⟨p.code, data, p.labs.map toLabel, imp⟩
def makeF (p : ProgR) (data : List Int) (imp : List Import) : Mod × Int × Int :=
  if p.err ≠ 0 then (mzero, p.line, p.err) else if modE (makeM p data imp) ≠ 0 then (mzero, 0, modE (makeM p data imp)) else (makeM p data imp, 0, 0)
theorem packF_i64 (i : Inst) : i64 (packF i).1 := by
  unfold packF
  cases h : instOk i
  · rw [if_neg (by decide)]; unfold i64; decide
  · rw [if_pos rfl]
    have hop := instOk_op h
    obtain ⟨ho, ha, hb, hc⟩ := instOk_in h
    unfold i64
    dsimp only
    omega
theorem lineK_i64 {s : List UInt8} {v : Int} (h : lineK s = .cell v) : i64 v := by
  unfold lineK at h
  repeat' split at h
  all_goals first
    | (cases h; done)
    | (injection h with h; subst h; exact packF_i64 _)
    | (injection h with h; subst h; exact atoiN_i64 _)
theorem run2_i64 {ls : List Lab} : ∀ {ks : List LineK} {code c : List Int} {n : Int}, (∀ v, LineK.cell v ∈ ks → i64 v) → (∀ v ∈ code, i64 v) → run2 ls ks code n = .inr c → ∀ v ∈ c, i64 v := by
  intro ks
  induction ks with
  | nil => intro code c n _ hc h; cases h; exact hc
  | cons k ks ih =>
    intro code c n hk hc h
    have hk' : ∀ v, LineK.cell v ∈ ks → i64 v := fun v hv => hk v (List.mem_cons_of_mem _ hv)
    cases k with
    | cell v =>
      refine ih hk' (fun x hx => ?_) h
      rcases List.mem_append.1 hx with hx | hx
      · exact hc x hx
      · obtain rfl := List.mem_singleton.1 hx
        exact hk _ List.mem_cons_self
    | hole i nm =>
      simp only [run2] at h
      split at h
      · cases h
      · split at h
        · refine ih hk' (fun x hx => ?_) h
          rcases List.mem_append.1 hx with hx | hx
          · exact hc x hx
          · obtain rfl := List.mem_singleton.1 hx
            exact packF_i64 _
        · cases h
    | large => exact ih hk' hc h
    | empty => exact ih hk' hc h
    | bad => exact ih hk' hc h
    | label nm => exact ih hk' hc h
theorem run1_wf {B : Int} : ∀ {ks : List LineK} {st : St1} {n : Int} {ls : List Lab}, (∀ x ∈ st.labs, x.name.length ≤ 12 ∧ 0 ≤ x.pos ∧ x.pos ≤ B) → 0 ≤ st.count → st.count + ks.length ≤ B → run1 ks st n = .inr ls → ∀ x ∈ ls, x.name.length ≤ 12 ∧ 0 ≤ x.pos ∧ x.pos ≤ B := by
  intro ks
  induction ks with
  | nil => intro st n ls h _ _ hr; cases hr; exact h
  | cons k ks ih =>
    intro st n ls h h0 hB hr
    simp only [run1] at hr
    split at hr
    · cases hr
    · rename_i he
      simp only [List.length_cons] at hB
      have he' : labErr st.labs k = 0 := by simpa using he
      refine ih (st := step1 st k) ?_ ?_ ?_ hr
      · cases k with
        | label nm =>
          intro x hx
          rcases List.mem_append.1 hx with hx | hx
          · exact h x hx
          · obtain rfl := List.mem_singleton.1 hx
            have hn : nameB nm = true := by
              cases hc : nameB nm
              · rw [labErr_name hc] at he'; cases he'
              · rfl
            unfold nameB at hn
            simp only [Bool.and_eq_true, decide_eq_true_eq] at hn
            exact ⟨hn.1.1.2, h0, by dsimp only; omega⟩
        | _ => exact h
      · cases k <;> simp only [step1] <;> omega
      · cases k <;> simp only [step1] <;> omega
theorem progR_wf (s : List UInt8) : (∀ v ∈ (progR s).code, i64 v) ∧ ∀ x ∈ (progR s).labs, x.name.length ≤ 12 ∧ 0 ≤ x.pos ∧ x.pos ≤ 150 := by
  unfold progR
  split
  · exact ⟨fun v h => by simp at h, fun x h => by simp at h⟩
  · rename_i hn
    unfold progL
    cases h1 : run1 ((splitL 10 s).map lineK) ⟨0, []⟩ 0 with
    | inl x => exact ⟨fun v h => by simp at h, fun x h => by simp at h⟩
    | inr ls =>
      dsimp only
      have hl := run1_wf (B := 150) (fun x hx => by simp at hx) (Int.le_refl 0) (by simp only [List.length_map]; omega) h1
      cases h2 : run2 ls ((splitL 10 s).map lineK) [] 0 with
      | inl x => exact ⟨fun v h => by simp at h, fun x h => by simp at h⟩
      | inr code =>
        refine ⟨run2_i64 (fun v hv => ?_) (fun v hv => by simp at hv) h2, hl⟩
        obtain ⟨l, _, hl⟩ := List.mem_map.1 hv
        exact lineK_i64 hl
theorem makeM_wf {s : List UInt8} {data : List Int} {imp : List Import} (hd : ∀ (i : Nat) n, data[i]? = some n → i64 n) (hi : ∀ (i : Nat) x, imp[i]? = some x → Import.Wf x) : (makeM (progR s) data imp).Wf := by
  obtain ⟨h1, h2⟩ := progR_wf s
  refine ⟨fun i n hn => h1 n (List.mem_of_getElem? hn), hd, fun i x hx => ?_, hi⟩
  obtain ⟨y, hy, rfl⟩ := List.mem_map.1 (List.mem_of_getElem? hx)
  obtain ⟨a, b, c⟩ := h2 y hy
  exact ⟨by show (str y.name).size ≤ maxLen; rw [str_size]; unfold maxLen; omega, by show i64 y.pos; unfold i64; omega⟩
def MakeRet (w : World) (r : Mod × Int × Int) (e : Ending) (w' : World) : Prop := ∃ mv, e = .returned (.tuple #[mv, .int .i64 r.2.1, .int .i64 r.2.2]) ∧ ModV w' w'.heap.size mv r.1 ∧ Below w.heap.size w w'
theorem ModV.zero (w : World) : ModV w w.heap.size (.agg #[.slice none 0 0, .slice none 0 0, .slice none 0 0, .slice none 0 0]) mzero :=
  ⟨none, none, none, none, 0, 0, 0, 0, rfl, Nat.le_refl _, by decide, Nat.le_refl _, by decide, Nat.le_refl _, by decide, Nat.le_refl _, by decide, fun h => absurd rfl h, fun h => absurd rfl h, fun h => absurd rfl h, fun h => absurd rfl h⟩
theorem modV_rows {T : Nat → Prop} {w0 w : World} {rs : List Res} (hI : InvT T w0 rs w) {V1 V2 V3 V4 : Option Addr} {k1 k2 k3 k4 : Nat} {p : ProgR} {data : List Int} {imp : List Import} (h1 : rs[1]? = some (.row 3 1 (.slice V1 p.code.length k1) p.code.length (p.code.flatMap encI))) (h2 : rs[2]? = some (.row 47 2 (.slice V2 p.labs.length k2) p.labs.length (p.labs.flatMap encLab)))
    (h3 : rs[3]? = some (.row 3 1 (.slice V3 data.length k3) data.length (data.flatMap encI))) (h4 : rs[4]? = some (.row 114 2 (.slice V4 imp.length k4) imp.length (imp.flatMap encM))) :
    ModV w w.heap.size (.agg #[.slice V1 p.code.length k1, .slice V3 data.length k3, .slice V2 p.labs.length k2, .slice V4 imp.length k4]) (makeM p data imp) := by
  have c1 := hI.rowCapT h1
  have c2 := hI.rowCapT h2
  have c3 := hI.rowCapT h3
  have c4 := hI.rowCapT h4
  have hl : (p.labs.map toLabel).length = p.labs.length := List.length_map _
  refine ⟨V1, V3, V2, V4, k1, k3, k2, k4, ?_, c1.1, c1.2, c3.1, c3.2, ?_, c2.2, c4.1, c4.2, (hI.own0 h1).liesB len_Int rfl, (hI.own0 h3).liesB len_Int rfl, ((hI.own0 h2).liesB len_Lab rfl).labs, (hI.own0 h4).liesB (fun _ => rfl) rfl⟩
  · show _ = Value.agg #[.slice V1 p.code.length k1, .slice V3 data.length k3, .slice V2 (p.labs.map toLabel).length k2, .slice V4 imp.length k4]
    rw [hl]
  · show (p.labs.map toLabel).length ≤ k2
    rw [hl]; exact c2.1
end Go.Proofs.YtbkjhdohkdeniaaGreatDoor
namespace Go.Proofs.YtbkjhdohkdeniaaGreatDoor
open Go.RowKit
set_option maxRecDepth 100000
theorem c_Clone_M (A : Option Addr) (c : Nat) (xs : List _) (w : World) (hn : xs.length ≤ maxLen) (hbig : xs.length * 24 ≤ 140737488355328) (hL : Lies encM 2 w w.heap.size A xs) :
    Calls Tryz.prog 42 #[.slice A xs.length c] w (RetOwn encM 114 2 w xs fun v => v) := by
  have q22 := fun (w : World) (a : Option Addr) (n c n' c' : Nat) => Lib.run_eql_slice_nil (P := Tryz.prog) w _ _ a n c n' c' Tryz.underlying49
  cases A with
  | none =>
    have hx : xs = [] := hL.of_none
    subst hx
    go_enter Tryz.func42, Tryz.ntmps42
    go_wp2
    go_ret
    exact RetOwn.mk (f := fun v => v) (fun _ => rfl) Own.nil_ (by (repeat' (first | (with_reducible exact Below.refl _ _) | (with_reducible assumption) | (with_reducible refine Below.alloc ?_ ?_ _) | (with_reducible refine Below.drew ?_) | (with_reducible refine Below.setCell ?_ ?_ _) | (refine Below.trans ?_ (Below.mono (by with_reducible assumption) ?_)) | go_size)))
  | some a =>
    have H := Lib.hid hL
    clear hL
    go_enter Tryz.func42, Tryz.ntmps42
    go_wp2_with (at_builtin; refine wpList_app rfl _ _ rfl el_M (Own.made w #[] 0 w.heap.size (Nat.le_refl _) (Nat.zero_le _) (by simp)) (H.out.keep (w' := w.alloc (.cells #[] 114)) fun p hp => World.cell?_alloc_lt w _ p hp) rfl rfl rfl (by simpa using hn) (by simpa using hbig) (by simp [World.size_alloc]) ?_)
    intro v' w1 hown hgrow hat
    go_wp2
    go_ret
    refine RetOwn.mk (f := fun v => v) (fun _ => rfl) (by simpa using hown) ?_
    exact ((Below.refl _ w).alloc (Nat.le_refl _) _).grown hgrow (by simp) (by intro k hk; simp [Value.ownBlock] at hk; omega)
theorem r_Copy_M (A : Option Addr) (c : Nat) (xs : List _) (w : World) (hn : xs.length ≤ maxLen) (hbig : xs.length * 24 ≤ 140737488355328) (hL : Lies encM 2 w w.heap.size A xs) :
    Calls Tryz.prog 44 #[.slice A xs.length c] w (RetOwn encM 114 2 w xs fun v => v) := by
  have H := Lib.hid hL
  clear hL
  go_enter Tryz.func44, Tryz.ntmps44
  go_wp2_with (at_builtin; refine wpList_app rfl _ _ rfl el_M (Own.nil_ (base := w.heap.size)) H.out rfl rfl rfl (by simpa using hn) (by simpa using hbig) (Nat.le_refl _) ?_)
  intro v' w1 hown hgrow hat
  go_wp2
  go_ret
  exact RetOwn.mk (f := fun v => v) (fun _ => rfl) (by simpa using hown) ((Below.refl _ w).grown hgrow (Nat.le_refl _) (by intro k hk; simp [Value.ownBlock] at hk))
set_option maxHeartbeats 4000000 in
theorem c_module_Make (s : List UInt8) (hs : s.length ≤ 1500000) (A B : Option Addr) (c d : Nat) (data : List Int) (imp : List Import) (w : World) (hE : EnvE w) (hd1 : data.length ≤ maxLen) (hd2 : data.length * 8 ≤ 140737488355328) (hm1 : imp.length ≤ maxLen) (hm2 : imp.length * 24 ≤ 140737488355328)
    (hdw : ∀ (i : Nat) n, data[i]? = some n → i64 n) (hmw : ∀ (i : Nat) x, imp[i]? = some x → Import.Wf x) (hL : Lies encI 1 w w.heap.size A data) (hM : Lies encM 2 w w.heap.size B imp) :
    Calls Tryz.prog 14 #[.string (str s), .slice A data.length c, .slice B imp.length d] w (MakeRet w (makeF (progR s) data imp)) := by
  have hI := Inv.start w
  have h1 := fun w h => c_prog_Read s (by omega) w h
  have hwf := makeM_wf (s := s) hdw hmw
  have HD := Lib.hid hL
  have HM := Lib.hid hM
  have HD1 := Lib.hid hd1
  have HD2 := Lib.hid hd2
  have HI1 := Lib.hid hm1
  have HI2 := Lib.hid hm2
  obtain ⟨F, hF⟩ : ∃ F, makeF (progR s) data imp = F := ⟨_, rfl⟩
  have HF := Lib.hid hF
  rw [hF]
  generalize progR s = p at *
  have HCK := Lib.hid (fun mv w hm => c_module_Check mv (makeM p data imp) w hwf hm)
  unfold ProgRet at h1
  have H1 := Lib.hid h1
  clear hL hM hd1 hd2 hm1 hm2 hdw hmw hwf h1 hs hF
  generalize str s = ss at *
  by_cases he : p.err = 0
  · rw [he] at H1
    cases hck : decide (modE (makeM p data imp) = 0)
    · have hne := of_decide_eq_false hck
      have HG := Lib.hid (show F = (mzero, 0, modE (makeM p data imp)) by rw [← HF.out]; unfold makeF; rw [if_neg (by rw [he]; decide), if_pos hne])
      have hb : (modE (makeM p data imp) == 0) = false := by simp; exact hne
      have hb' : (modE (makeM p data imp) != 0) = true := by simp; exact hne
      clear hck hne he
      generalize modE (makeM p data imp) = me at *
      go_enter Tryz.func14, Tryz.ntmps14
      go_wp2_with (first | (refine listI_var rfl rfl 51 rfl _ _ rfl hI Tryz.zeroValue51 (fun _ => rfl) (fun _ => rfl) (by first | rfl | (simp only [hsz1]; first | done | rfl | kernel_rfl) | (simp only [hsz2]; first | done | rfl | kernel_rfl) | (simp only [hsz]; first | done | rfl | kernel_rfl) | kernel_rfl) (by first | exact info_mach (by assumption) | (simp only [hsz1]; kernel_rfl) | (simp only [hsz2]; kernel_rfl) | (simp only [hsz]; kernel_rfl) | kernel_rfl) (by first | (simp [Value.oneCell']; done) | exact HO1.out | exact HO2.out) fun gx w' hI' hb => ?_; (try clear hb); clear hI; have hI := hI'; clear hI'; (try simp only [mm, Act.put, Act.eval] at hI); (try clear c0); (try clear c1); (try clear c2); (try clear c3); (try clear c4); (try clear c5); (try have c0 := hI.cell (i := 0) rfl); (try have c1 := hI.cell (i := 1) rfl); (try have c2 := hI.cell (i := 2) rfl); (try have c3 := hI.cell (i := 3) rfl); (try have c4 := hI.cell (i := 4) rfl); (try have c5 := hI.cell (i := 5) rfl); skip) | (refine listI rfl fun K hK => wpI_alloc 51 rfl hI Tryz.zeroValue51 (cs := #[.slice none 0 0, .slice none 0 0, .slice none 0 0, .slice none 0 0]) (by first | rfl | kernel_rfl) fun gx w' hI' hb => hK _ _ ?_; clear hK K; (try clear hb); clear hI; have hI := hI'; clear hI'; (try simp only [mm, Act.put, Act.eval] at hI); (try clear c0); (try clear c1); (try clear c2); (try clear c3); (try clear c4); (try clear c5); (try have c0 := hI.cell (i := 0) rfl); (try have c1 := hI.cell (i := 1) rfl); (try have c2 := hI.cell (i := 2) rfl); (try have c3 := hI.cell (i := 3) rfl); (try have c4 := hI.cell (i := 4) rfl); (try have c5 := hI.cell (i := 5) rfl); skip) | (go_at_call 10; refine (H1.out _ (hE.inv hI)).mono ?_; rintro e w' ⟨vc, vl, rfl, hr⟩; have hI' := hI.joinP hr; simp only [List.nil_append, List.cons_append] at hI'; (try clear hb); clear hI; have hI := hI'; clear hI'; (try simp only [mm, Act.put, Act.eval] at hI); (try clear c0); (try clear c1); (try clear c2); (try clear c3); (try clear c4); (try clear c5); (try have c0 := hI.cell (i := 0) rfl); (try have c1 := hI.cell (i := 1) rfl); (try have c2 := hI.cell (i := 2) rfl); (try have c3 := hI.cell (i := 3) rfl); (try have c4 := hI.cell (i := 4) rfl); (try have c5 := hI.cell (i := 5) rfl); skip; obtain ⟨V1, k1, e1⟩ := (hI.own0 (enc := encI) (xs := p.code) (size := 1) (i := 1) rfl).form; obtain ⟨V2, k2, e2⟩ := (hI.own0 (enc := encLab) (xs := p.labs) (size := 2) (i := 2) rfl).form; subst e1 e2) | (go_at_call 41; (with_reducible refine (c_Clone_I A c data _ HD1.out HD2.out (hI.lies HD.out)).mono ?_); rintro e w' ⟨A2, A2k, rfl, hO, -, hb⟩; have hI' := hI.ownrow hb hO; clear hO; (try clear hb); clear hI; have hI := hI'; clear hI'; (try simp only [mm, Act.put, Act.eval] at hI); (try clear c0); (try clear c1); (try clear c2); (try clear c3); (try clear c4); (try clear c5); (try have c0 := hI.cell (i := 0) rfl); (try have c1 := hI.cell (i := 1) rfl); (try have c2 := hI.cell (i := 2) rfl); (try have c3 := hI.cell (i := 3) rfl); (try have c4 := hI.cell (i := 4) rfl); (try have c5 := hI.cell (i := 5) rfl); skip) | (go_at_call 42; (with_reducible refine (c_Clone_M B d imp _ HI1.out HI2.out (hI.lies HM.out)).mono ?_); rintro e w' ⟨A5, A5k, rfl, hO, -, hb⟩; have hI' := hI.ownrow hb hO; clear hO; (try clear hb); clear hI; have hI := hI'; clear hI'; (try simp only [mm, Act.put, Act.eval] at hI); (try clear c0); (try clear c1); (try clear c2); (try clear c3); (try clear c4); (try clear c5); (try have c0 := hI.cell (i := 0) rfl); (try have c1 := hI.cell (i := 1) rfl); (try have c2 := hI.cell (i := 2) rfl); (try have c3 := hI.cell (i := 3) rfl); (try have c4 := hI.cell (i := 4) rfl); (try have c5 := hI.cell (i := 5) rfl); skip) | (go_at_call 17; (with_reducible refine (HCK.out _ _ (modV_rows hI rfl rfl rfl rfl)).mono ?_); intro e w' hr; obtain ⟨rfl, hb⟩ := hr; have hI' := hI.on hb; (try clear hb); clear hI; have hI := hI'; clear hI'; (try simp only [mm, Act.put, Act.eval] at hI); (try clear c0); (try clear c1); (try clear c2); (try clear c3); (try clear c4); (try clear c5); (try have c0 := hI.cell (i := 0) rfl); (try have c1 := hI.cell (i := 1) rfl); (try have c2 := hI.cell (i := 2) rfl); (try have c3 := hI.cell (i := 3) rfl); (try have c4 := hI.cell (i := 4) rfl); (try have c5 := hI.cell (i := 5) rfl); skip) | (refine listI rfl fun K hK => wpI_storeW _ _ _ rfl hI rfl 0 rfl rfl rfl (by kernel_rfl) (by simp [Value.oneCell']) fun w' hI' => hK _ _ ?_; clear hK K; (try clear hb); clear hI; have hI := hI'; clear hI'; (try simp only [mm, Act.put, Act.eval] at hI); (try clear c0); (try clear c1); (try clear c2); (try clear c3); (try clear c4); (try clear c5); (try have c0 := hI.cell (i := 0) rfl); (try have c1 := hI.cell (i := 1) rfl); (try have c2 := hI.cell (i := 2) rfl); (try have c3 := hI.cell (i := 3) rfl); (try have c4 := hI.cell (i := 4) rfl); (try have c5 := hI.cell (i := 5) rfl); skip) | fail)
      have hbx := hI.box (i := 0) rfl
      ((try simp only [Exit.inBlock, Exit.then]); refine bodyPost_ret (results_ctt rfl rfl hbx Tryz.underlying51 rfl (by kernel_rfl)) rfl ?_)
      rw [HG.out]
      exact ⟨_, rfl, ModV.zero _, hI.below⟩
    · have heq := of_decide_eq_true hck
      have HG := Lib.hid (show F = (makeM p data imp, 0, 0) by rw [← HF.out]; unfold makeF; rw [if_neg (by rw [he]; decide), if_neg (by rw [heq]; decide)])
      rw [heq] at HCK
      clear hck heq he
      go_enter Tryz.func14, Tryz.ntmps14
      go_wp2_with (first | (refine listI_var rfl rfl 51 rfl _ _ rfl hI Tryz.zeroValue51 (fun _ => rfl) (fun _ => rfl) (by first | rfl | (simp only [hsz1]; first | done | rfl | kernel_rfl) | (simp only [hsz2]; first | done | rfl | kernel_rfl) | (simp only [hsz]; first | done | rfl | kernel_rfl) | kernel_rfl) (by first | exact info_mach (by assumption) | (simp only [hsz1]; kernel_rfl) | (simp only [hsz2]; kernel_rfl) | (simp only [hsz]; kernel_rfl) | kernel_rfl) (by first | (simp [Value.oneCell']; done) | exact HO1.out | exact HO2.out) fun gx w' hI' hb => ?_; (try clear hb); clear hI; have hI := hI'; clear hI'; (try simp only [mm, Act.put, Act.eval] at hI); (try clear c0); (try clear c1); (try clear c2); (try clear c3); (try clear c4); (try clear c5); (try have c0 := hI.cell (i := 0) rfl); (try have c1 := hI.cell (i := 1) rfl); (try have c2 := hI.cell (i := 2) rfl); (try have c3 := hI.cell (i := 3) rfl); (try have c4 := hI.cell (i := 4) rfl); (try have c5 := hI.cell (i := 5) rfl); skip) | (refine listI rfl fun K hK => wpI_alloc 51 rfl hI Tryz.zeroValue51 (cs := #[.slice none 0 0, .slice none 0 0, .slice none 0 0, .slice none 0 0]) (by first | rfl | kernel_rfl) fun gx w' hI' hb => hK _ _ ?_; clear hK K; (try clear hb); clear hI; have hI := hI'; clear hI'; (try simp only [mm, Act.put, Act.eval] at hI); (try clear c0); (try clear c1); (try clear c2); (try clear c3); (try clear c4); (try clear c5); (try have c0 := hI.cell (i := 0) rfl); (try have c1 := hI.cell (i := 1) rfl); (try have c2 := hI.cell (i := 2) rfl); (try have c3 := hI.cell (i := 3) rfl); (try have c4 := hI.cell (i := 4) rfl); (try have c5 := hI.cell (i := 5) rfl); skip) | (go_at_call 10; refine (H1.out _ (hE.inv hI)).mono ?_; rintro e w' ⟨vc, vl, rfl, hr⟩; have hI' := hI.joinP hr; simp only [List.nil_append, List.cons_append] at hI'; (try clear hb); clear hI; have hI := hI'; clear hI'; (try simp only [mm, Act.put, Act.eval] at hI); (try clear c0); (try clear c1); (try clear c2); (try clear c3); (try clear c4); (try clear c5); (try have c0 := hI.cell (i := 0) rfl); (try have c1 := hI.cell (i := 1) rfl); (try have c2 := hI.cell (i := 2) rfl); (try have c3 := hI.cell (i := 3) rfl); (try have c4 := hI.cell (i := 4) rfl); (try have c5 := hI.cell (i := 5) rfl); skip; obtain ⟨V1, k1, e1⟩ := (hI.own0 (enc := encI) (xs := p.code) (size := 1) (i := 1) rfl).form; obtain ⟨V2, k2, e2⟩ := (hI.own0 (enc := encLab) (xs := p.labs) (size := 2) (i := 2) rfl).form; subst e1 e2) | (go_at_call 41; (with_reducible refine (c_Clone_I A c data _ HD1.out HD2.out (hI.lies HD.out)).mono ?_); rintro e w' ⟨A2, A2k, rfl, hO, -, hb⟩; have hI' := hI.ownrow hb hO; clear hO; (try clear hb); clear hI; have hI := hI'; clear hI'; (try simp only [mm, Act.put, Act.eval] at hI); (try clear c0); (try clear c1); (try clear c2); (try clear c3); (try clear c4); (try clear c5); (try have c0 := hI.cell (i := 0) rfl); (try have c1 := hI.cell (i := 1) rfl); (try have c2 := hI.cell (i := 2) rfl); (try have c3 := hI.cell (i := 3) rfl); (try have c4 := hI.cell (i := 4) rfl); (try have c5 := hI.cell (i := 5) rfl); skip) | (go_at_call 42; (with_reducible refine (c_Clone_M B d imp _ HI1.out HI2.out (hI.lies HM.out)).mono ?_); rintro e w' ⟨A5, A5k, rfl, hO, -, hb⟩; have hI' := hI.ownrow hb hO; clear hO; (try clear hb); clear hI; have hI := hI'; clear hI'; (try simp only [mm, Act.put, Act.eval] at hI); (try clear c0); (try clear c1); (try clear c2); (try clear c3); (try clear c4); (try clear c5); (try have c0 := hI.cell (i := 0) rfl); (try have c1 := hI.cell (i := 1) rfl); (try have c2 := hI.cell (i := 2) rfl); (try have c3 := hI.cell (i := 3) rfl); (try have c4 := hI.cell (i := 4) rfl); (try have c5 := hI.cell (i := 5) rfl); skip) | (go_at_call 17; (with_reducible refine (HCK.out _ _ (modV_rows hI rfl rfl rfl rfl)).mono ?_); intro e w' hr; obtain ⟨rfl, hb⟩ := hr; have hI' := hI.on hb; (try clear hb); clear hI; have hI := hI'; clear hI'; (try simp only [mm, Act.put, Act.eval] at hI); (try clear c0); (try clear c1); (try clear c2); (try clear c3); (try clear c4); (try clear c5); (try have c0 := hI.cell (i := 0) rfl); (try have c1 := hI.cell (i := 1) rfl); (try have c2 := hI.cell (i := 2) rfl); (try have c3 := hI.cell (i := 3) rfl); (try have c4 := hI.cell (i := 4) rfl); (try have c5 := hI.cell (i := 5) rfl); skip) | (refine listI rfl fun K hK => wpI_storeW _ _ _ rfl hI rfl 0 rfl rfl rfl (by kernel_rfl) (by simp [Value.oneCell']) fun w' hI' => hK _ _ ?_; clear hK K; (try clear hb); clear hI; have hI := hI'; clear hI'; (try simp only [mm, Act.put, Act.eval] at hI); (try clear c0); (try clear c1); (try clear c2); (try clear c3); (try clear c4); (try clear c5); (try have c0 := hI.cell (i := 0) rfl); (try have c1 := hI.cell (i := 1) rfl); (try have c2 := hI.cell (i := 2) rfl); (try have c3 := hI.cell (i := 3) rfl); (try have c4 := hI.cell (i := 4) rfl); (try have c5 := hI.cell (i := 5) rfl); skip) | fail)
      have hbx := hI.box (i := 0) rfl
      ((try simp only [Exit.inBlock, Exit.then]); refine bodyPost_ret (results_ctt rfl rfl hbx Tryz.underlying51 rfl (by kernel_rfl)) rfl ?_)
      rw [HG.out]
      exact ⟨_, rfl, modV_rows hI rfl rfl rfl rfl, hI.below⟩
  · have HG := Lib.hid (show F = (mzero, p.line, p.err) by rw [← HF.out]; unfold makeF; rw [if_pos he])
    have hb : (p.err == 0) = false := by simp; exact he
    have hb' : (p.err != 0) = true := by simp; exact he
    clear he
    generalize p.err = pe at *
    generalize p.line = pl at *
    go_enter Tryz.func14, Tryz.ntmps14
    go_wp2_with (first | (refine listI_var rfl rfl 51 rfl _ _ rfl hI Tryz.zeroValue51 (fun _ => rfl) (fun _ => rfl) (by first | rfl | (simp only [hsz1]; first | done | rfl | kernel_rfl) | (simp only [hsz2]; first | done | rfl | kernel_rfl) | (simp only [hsz]; first | done | rfl | kernel_rfl) | kernel_rfl) (by first | exact info_mach (by assumption) | (simp only [hsz1]; kernel_rfl) | (simp only [hsz2]; kernel_rfl) | (simp only [hsz]; kernel_rfl) | kernel_rfl) (by first | (simp [Value.oneCell']; done) | exact HO1.out | exact HO2.out) fun gx w' hI' hb => ?_; (try clear hb); clear hI; have hI := hI'; clear hI'; (try simp only [mm, Act.put, Act.eval] at hI); (try clear c0); (try clear c1); (try clear c2); (try clear c3); (try clear c4); (try clear c5); (try have c0 := hI.cell (i := 0) rfl); (try have c1 := hI.cell (i := 1) rfl); (try have c2 := hI.cell (i := 2) rfl); (try have c3 := hI.cell (i := 3) rfl); (try have c4 := hI.cell (i := 4) rfl); (try have c5 := hI.cell (i := 5) rfl); skip) | (refine listI rfl fun K hK => wpI_alloc 51 rfl hI Tryz.zeroValue51 (cs := #[.slice none 0 0, .slice none 0 0, .slice none 0 0, .slice none 0 0]) (by first | rfl | kernel_rfl) fun gx w' hI' hb => hK _ _ ?_; clear hK K; (try clear hb); clear hI; have hI := hI'; clear hI'; (try simp only [mm, Act.put, Act.eval] at hI); (try clear c0); (try clear c1); (try clear c2); (try clear c3); (try clear c4); (try clear c5); (try have c0 := hI.cell (i := 0) rfl); (try have c1 := hI.cell (i := 1) rfl); (try have c2 := hI.cell (i := 2) rfl); (try have c3 := hI.cell (i := 3) rfl); (try have c4 := hI.cell (i := 4) rfl); (try have c5 := hI.cell (i := 5) rfl); skip) | (go_at_call 10; refine (H1.out _ (hE.inv hI)).mono ?_; rintro e w' ⟨vc, vl, rfl, hr⟩; have hI' := hI.joinP hr; simp only [List.nil_append, List.cons_append] at hI'; (try clear hb); clear hI; have hI := hI'; clear hI'; (try simp only [mm, Act.put, Act.eval] at hI); (try clear c0); (try clear c1); (try clear c2); (try clear c3); (try clear c4); (try clear c5); (try have c0 := hI.cell (i := 0) rfl); (try have c1 := hI.cell (i := 1) rfl); (try have c2 := hI.cell (i := 2) rfl); (try have c3 := hI.cell (i := 3) rfl); (try have c4 := hI.cell (i := 4) rfl); (try have c5 := hI.cell (i := 5) rfl); skip; obtain ⟨V1, k1, e1⟩ := (hI.own0 (enc := encI) (xs := p.code) (size := 1) (i := 1) rfl).form; obtain ⟨V2, k2, e2⟩ := (hI.own0 (enc := encLab) (xs := p.labs) (size := 2) (i := 2) rfl).form; subst e1 e2) | (go_at_call 41; (with_reducible refine (c_Clone_I A c data _ HD1.out HD2.out (hI.lies HD.out)).mono ?_); rintro e w' ⟨A2, A2k, rfl, hO, -, hb⟩; have hI' := hI.ownrow hb hO; clear hO; (try clear hb); clear hI; have hI := hI'; clear hI'; (try simp only [mm, Act.put, Act.eval] at hI); (try clear c0); (try clear c1); (try clear c2); (try clear c3); (try clear c4); (try clear c5); (try have c0 := hI.cell (i := 0) rfl); (try have c1 := hI.cell (i := 1) rfl); (try have c2 := hI.cell (i := 2) rfl); (try have c3 := hI.cell (i := 3) rfl); (try have c4 := hI.cell (i := 4) rfl); (try have c5 := hI.cell (i := 5) rfl); skip) | (go_at_call 42; (with_reducible refine (c_Clone_M B d imp _ HI1.out HI2.out (hI.lies HM.out)).mono ?_); rintro e w' ⟨A5, A5k, rfl, hO, -, hb⟩; have hI' := hI.ownrow hb hO; clear hO; (try clear hb); clear hI; have hI := hI'; clear hI'; (try simp only [mm, Act.put, Act.eval] at hI); (try clear c0); (try clear c1); (try clear c2); (try clear c3); (try clear c4); (try clear c5); (try have c0 := hI.cell (i := 0) rfl); (try have c1 := hI.cell (i := 1) rfl); (try have c2 := hI.cell (i := 2) rfl); (try have c3 := hI.cell (i := 3) rfl); (try have c4 := hI.cell (i := 4) rfl); (try have c5 := hI.cell (i := 5) rfl); skip) | (go_at_call 17; (with_reducible refine (HCK.out _ _ (modV_rows hI rfl rfl rfl rfl)).mono ?_); intro e w' hr; obtain ⟨rfl, hb⟩ := hr; have hI' := hI.on hb; (try clear hb); clear hI; have hI := hI'; clear hI'; (try simp only [mm, Act.put, Act.eval] at hI); (try clear c0); (try clear c1); (try clear c2); (try clear c3); (try clear c4); (try clear c5); (try have c0 := hI.cell (i := 0) rfl); (try have c1 := hI.cell (i := 1) rfl); (try have c2 := hI.cell (i := 2) rfl); (try have c3 := hI.cell (i := 3) rfl); (try have c4 := hI.cell (i := 4) rfl); (try have c5 := hI.cell (i := 5) rfl); skip) | (refine listI rfl fun K hK => wpI_storeW _ _ _ rfl hI rfl 0 rfl rfl rfl (by kernel_rfl) (by simp [Value.oneCell']) fun w' hI' => hK _ _ ?_; clear hK K; (try clear hb); clear hI; have hI := hI'; clear hI'; (try simp only [mm, Act.put, Act.eval] at hI); (try clear c0); (try clear c1); (try clear c2); (try clear c3); (try clear c4); (try clear c5); (try have c0 := hI.cell (i := 0) rfl); (try have c1 := hI.cell (i := 1) rfl); (try have c2 := hI.cell (i := 2) rfl); (try have c3 := hI.cell (i := 3) rfl); (try have c4 := hI.cell (i := 4) rfl); (try have c5 := hI.cell (i := 5) rfl); skip) | fail)
    have hbx := hI.box (i := 0) rfl
    ((try simp only [Exit.inBlock, Exit.then]); refine bodyPost_ret (results_ctt rfl rfl hbx Tryz.underlying51 rfl (by kernel_rfl)) rfl ?_)
    rw [HG.out]
    exact ⟨_, rfl, ModV.zero _, hI.below⟩
end Go.Proofs.YtbkjhdohkdeniaaGreatDoor
