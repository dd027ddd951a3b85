/- The contract of module.Check. Conditions: the numbers are numbers of 64 bits. -/
import Derived.Test.YthdlfepakkihnaaMods

import Derived.Test.YthdlfepakkihnaaInv
namespace Go.Proofs.Ythdlfepakkihnaa
open Go.RowKit
set_option linter.unusedVariables false
set_option linter.unusedSimpArgs false
set_option maxRecDepth 100000
theorem idx_any {α : Type} {p : α → Bool} {l : List α} : decide (0 ≤ idxP p l) = l.any p := by
  unfold idxP idxFrom
  simp only [List.drop_zero]
  cases h : l.findIdx? p with
  | none =>
    rw [List.findIdx?_eq_none_iff] at h
    have : l.any p = false := by rw [Bool.eq_false_iff, ne_eq, List.any_eq_true]; rintro ⟨x, hx, hp⟩; rw [h x hx] at hp; cases hp
    rw [this]; simp
  | some i =>
    have h1 : (l.findIdx? p).isSome = true := by rw [h]; rfl
    rw [List.findIdx?_isSome] at h1
    rw [h1]; simp
set_option maxHeartbeats 1000000 in
theorem c_IndexFuncIn_L (g : Nat) (cap : Array Value) (pr : Label → Bool) (eg : ∀ args w, (callFunc g args).run Try.prog w = .ok (.enter g args) w) (A : Option Addr) (c : Nat) (xs : List Label) (w : World) (hn : xs.length ≤ maxLen) (hL : Lies encL 2 w w.heap.size A xs)
    (hp : ∀ x ∈ xs, ∀ W, Below w.heap.size w W → Calls Try.prog g (#[.agg #[.string x.name, .int .i64 x.pos]] ++ cap) W (Ret (.bool (pr x)) W)) :
    Calls Try.prog 89 #[.slice A xs.length c, .func (.func g) #[] cap] w (Ret (.int .i64 (idxP pr xs)) w) := by
  have hlen : xs.length ≤ 9223372036854775807 := by unfold maxLen at hn; omega
  clear hn
  have HP := Lib.hid hp
  clear hp
  go_enter Try.func89, Try.ntmps89
  go_wp2
  go_loopw [5, 8] (fun _ v wr => ∃ k : Nat, v = .int .i64 k ∧ k ≤ xs.length ∧ idxP pr xs = idxFrom pr xs k ∧ Below w.heap.size w wr) (fun _ v _ => (xs.length - intOf v).toNat)
  case atStart => exact ⟨0, rfl, by omega, rfl, by (repeat' (first | (with_reducible exact Below.refl _ _) | (with_reducible assumption) | (with_reducible refine Below.alloc ?_ ?_ _) | (with_reducible refine Below.drew ?_) | (with_reducible refine Below.setCell ?_ ?_ _) | (refine Below.trans ?_ (Below.mono (by with_reducible assumption) ?_)) | go_size))⟩
  case round =>
    obtain ⟨k, rfl, hk, he, hbw⟩ := hrel
    have hbz := hbw.size
    have HF := Lib.hid he
    clear he
    rcases Nat.lt_or_ge k xs.length with hlt | hge
    · obtain ⟨bk, o, p, rfl, hbk, hp, q0, q1⟩ := (hL.below hbw).cellsL hlt
      have HX := Lib.hid hp
      clear hp
      have hcall := HP.out p (List.mem_of_getElem? HX.out) wr hbw
      cases hq : pr p
      · have H := Lib.hid (HF.out.trans (idxFrom_no HX.out hq))
        have HC := Lib.hid hcall
        rw [hq] at HC
        clear hcall hq
        go_wp2_with (go_at_fn g; refine HC.out.mono ?_; intro e w1 hr; obtain ⟨rfl, hb, hc, hf, hz⟩ := hr.use; clear hr)
        go_roundw
        case rel => exact ⟨k + 1, by go_num, by omega, H.out, by (repeat' (first | (with_reducible exact Below.refl _ _) | (with_reducible assumption) | (with_reducible refine Below.alloc ?_ ?_ _) | (with_reducible refine Below.drew ?_) | (with_reducible refine Below.setCell ?_ ?_ _) | (refine Below.trans ?_ (Below.mono (by with_reducible assumption) ?_)) | go_size))⟩
        case measure => simp [intOf]; omega
      · have H := Lib.hid (HF.out.trans (idxFrom_yes HX.out hq))
        have HC := Lib.hid hcall
        rw [hq] at HC
        clear hcall hq
        go_wp2_with (go_at_fn g; refine HC.out.mono ?_; intro e w1 hr; obtain ⟨rfl, hb, hc, hf, hz⟩ := hr.use; clear hr)
        go_returns
        exact Ret.int H.out.symm (by (repeat' (first | (with_reducible exact Below.refl _ _) | (with_reducible assumption) | (with_reducible refine Below.alloc ?_ ?_ _) | (with_reducible refine Below.drew ?_) | (with_reducible refine Below.setCell ?_ ?_ _) | (refine Below.trans ?_ (Below.mono (by with_reducible assumption) ?_)) | go_size)))
    · have H := Lib.hid (HF.out.trans (idxFrom_end hge))
      go_wp2
      go_returns
      exact Ret.int H.out.symm (by (repeat' (first | (with_reducible exact Below.refl _ _) | (with_reducible assumption) | (with_reducible refine Below.alloc ?_ ?_ _) | (with_reducible refine Below.drew ?_) | (with_reducible refine Below.setCell ?_ ?_ _) | (refine Below.trans ?_ (Below.mono (by with_reducible assumption) ?_)) | go_size)))
theorem c_IndexFunc_L (g : Nat) (cap : Array Value) (pr : Label → Bool) (eg : ∀ args w, (callFunc g args).run Try.prog w = .ok (.enter g args) w) (A : Option Addr) (c : Nat) (xs : List Label) (w : World) (hn : xs.length ≤ maxLen) (hL : Lies encL 2 w w.heap.size A xs)
    (hp : ∀ x W, Below w.heap.size w W → Calls Try.prog g (#[.agg #[.string x.name, .int .i64 x.pos]] ++ cap) W (Ret (.bool (pr x)) W)) :
    Calls Try.prog 89 #[.slice A xs.length c, .func (.func g) #[] cap] w (Ret (.int .i64 (idxP pr xs)) w) := c_IndexFuncIn_L g cap pr eg A c xs w hn hL fun x _ => hp x
set_option maxHeartbeats 1000000 in
theorem c_IndexFuncIn_M (g : Nat) (cap : Array Value) (pr : Import → Bool) (eg : ∀ args w, (callFunc g args).run Try.prog w = .ok (.enter g args) w) (A : Option Addr) (c : Nat) (xs : List Import) (w : World) (hn : xs.length ≤ maxLen) (hL : Lies encM 2 w w.heap.size A xs)
    (hp : ∀ x ∈ xs, ∀ W, Below w.heap.size w W → Calls Try.prog g (#[.agg #[.string x.name, .int .i64 x.slot]] ++ cap) W (Ret (.bool (pr x)) W)) :
    Calls Try.prog 90 #[.slice A xs.length c, .func (.func g) #[] cap] w (Ret (.int .i64 (idxP pr xs)) w) := by
  have hlen : xs.length ≤ 9223372036854775807 := by unfold maxLen at hn; omega
  clear hn
  have HP := Lib.hid hp
  clear hp
  go_enter Try.func90, Try.ntmps90
  go_wp2
  go_loopw [5, 8] (fun _ v wr => ∃ k : Nat, v = .int .i64 k ∧ k ≤ xs.length ∧ idxP pr xs = idxFrom pr xs k ∧ Below w.heap.size w wr) (fun _ v _ => (xs.length - intOf v).toNat)
  case atStart => exact ⟨0, rfl, by omega, rfl, by (repeat' (first | (with_reducible exact Below.refl _ _) | (with_reducible assumption) | (with_reducible refine Below.alloc ?_ ?_ _) | (with_reducible refine Below.drew ?_) | (with_reducible refine Below.setCell ?_ ?_ _) | (refine Below.trans ?_ (Below.mono (by with_reducible assumption) ?_)) | go_size))⟩
  case round =>
    obtain ⟨k, rfl, hk, he, hbw⟩ := hrel
    have hbz := hbw.size
    have HF := Lib.hid he
    clear he
    rcases Nat.lt_or_ge k xs.length with hlt | hge
    · obtain ⟨bk, o, p, rfl, hbk, hp, q0, q1⟩ := (hL.below hbw).cellsM hlt
      have HX := Lib.hid hp
      clear hp
      have hcall := HP.out p (List.mem_of_getElem? HX.out) wr hbw
      cases hq : pr p
      · have H := Lib.hid (HF.out.trans (idxFrom_no HX.out hq))
        have HC := Lib.hid hcall
        rw [hq] at HC
        clear hcall hq
        go_wp2_with (go_at_fn g; refine HC.out.mono ?_; intro e w1 hr; obtain ⟨rfl, hb, hc, hf, hz⟩ := hr.use; clear hr)
        go_roundw
        case rel => exact ⟨k + 1, by go_num, by omega, H.out, by (repeat' (first | (with_reducible exact Below.refl _ _) | (with_reducible assumption) | (with_reducible refine Below.alloc ?_ ?_ _) | (with_reducible refine Below.drew ?_) | (with_reducible refine Below.setCell ?_ ?_ _) | (refine Below.trans ?_ (Below.mono (by with_reducible assumption) ?_)) | go_size))⟩
        case measure => simp [intOf]; omega
      · have H := Lib.hid (HF.out.trans (idxFrom_yes HX.out hq))
        have HC := Lib.hid hcall
        rw [hq] at HC
        clear hcall hq
        go_wp2_with (go_at_fn g; refine HC.out.mono ?_; intro e w1 hr; obtain ⟨rfl, hb, hc, hf, hz⟩ := hr.use; clear hr)
        go_returns
        exact Ret.int H.out.symm (by (repeat' (first | (with_reducible exact Below.refl _ _) | (with_reducible assumption) | (with_reducible refine Below.alloc ?_ ?_ _) | (with_reducible refine Below.drew ?_) | (with_reducible refine Below.setCell ?_ ?_ _) | (refine Below.trans ?_ (Below.mono (by with_reducible assumption) ?_)) | go_size)))
    · have H := Lib.hid (HF.out.trans (idxFrom_end hge))
      go_wp2
      go_returns
      exact Ret.int H.out.symm (by (repeat' (first | (with_reducible exact Below.refl _ _) | (with_reducible assumption) | (with_reducible refine Below.alloc ?_ ?_ _) | (with_reducible refine Below.drew ?_) | (with_reducible refine Below.setCell ?_ ?_ _) | (refine Below.trans ?_ (Below.mono (by with_reducible assumption) ?_)) | go_size)))
theorem c_IndexFunc_M (g : Nat) (cap : Array Value) (pr : Import → Bool) (eg : ∀ args w, (callFunc g args).run Try.prog w = .ok (.enter g args) w) (A : Option Addr) (c : Nat) (xs : List Import) (w : World) (hn : xs.length ≤ maxLen) (hL : Lies encM 2 w w.heap.size A xs)
    (hp : ∀ x W, Below w.heap.size w W → Calls Try.prog g (#[.agg #[.string x.name, .int .i64 x.slot]] ++ cap) W (Ret (.bool (pr x)) W)) :
    Calls Try.prog 90 #[.slice A xs.length c, .func (.func g) #[] cap] w (Ret (.int .i64 (idxP pr xs)) w) := c_IndexFuncIn_M g cap pr eg A c xs w hn hL fun x _ => hp x
set_option maxHeartbeats 1000000 in
theorem c_numbers1 (n : Int) (w : World) : Calls Try.prog 85 #[.int .i64 n] w (Ret (.bool (n != wr n)) w) := by
  go_enter Try.func85, Try.ntmps85
  go_wp2_with (go_at_call 86; (with_reducible refine (c_num_Wrap _ _).mono ?_); rintro e w1 ⟨rfl, rfl⟩)
  go_returns
  exact Ret.bool rfl (by (repeat' (first | (with_reducible exact Below.refl _ _) | (with_reducible assumption) | (with_reducible refine Below.alloc ?_ ?_ _) | (with_reducible refine Below.drew ?_) | (with_reducible refine Below.setCell ?_ ?_ _) | (refine Below.trans ?_ (Below.mono (by with_reducible assumption) ?_)) | go_size)))
theorem c_ContainsInt (A : Option Addr) (c : Nat) (xs : List Int) (w : World) (hn : xs.length ≤ maxLen) (hL : Lies encI 1 w w.heap.size A xs) :
    Calls Try.prog 84 #[.slice A xs.length c, .func (.func 85) #[] #[]] w (Ret (.bool (!numsB xs)) w) := by
  have H := Lib.hid (show decide (0 ≤ idxP (fun n => n != wr n) xs) = !numsB xs by rw [idx_any]; unfold numsB; rw [List.any_eq_not_all_not]; simp [bne])
  have hc := Lib.hid (fun W hL => c_IndexFunc_I 85 #[] (fun n => n != wr n) (enters_of Try.func85 (by kernel_rfl) rfl) A c xs W hn hL (fun x W' _ => c_numbers1 x W'))
  have hI := Inv.start w
  have HL := Lib.hid hL
  clear hL
  go_enter Try.func84, Try.ntmps84
  go_wp2_with (go_at_call 98; (with_reducible refine (hc.out _ (hI.lies HL.out)).mono ?_); intro e w' hr; obtain ⟨rfl, hb⟩ := hr; have hI' := hI.on hb; (try replace HM1 := Lib.hid (HM1.out.grow hb)); (try replace HM2 := Lib.hid (HM2.out.grow hb)); (try replace HM3 := Lib.hid (HM3.out.grow hb)); (try replace HM4 := Lib.hid (HM4.out.grow hb)); (try clear hb); clear hI; have hI := hI'; clear hI'; (try simp only [List.cons_append, List.nil_append, List.set_cons_zero, List.set_cons_succ, List.setIfInBounds_toArray, Act.put, Act.eval, Array.getD_eq_getD_getElem?, List.getElem?_toArray, List.getElem?_cons_zero, List.getElem?_cons_succ, Option.getD_some] at hI); (try clear c0); (try clear c1); (try clear c2); (try clear c3); (try clear c4); (try clear c5); (try clear c6); (try clear c7); (try clear c8); (try clear c9); (try clear c10); (try clear c11); (try have c0 := hI.cell (i := 0) rfl); (try have c1 := hI.cell (i := 1) rfl); (try have c2 := hI.cell (i := 2) rfl); (try have c3 := hI.cell (i := 3) rfl); (try have c4 := hI.cell (i := 4) rfl); (try have c5 := hI.cell (i := 5) rfl); (try have c6 := hI.cell (i := 6) rfl); (try have c7 := hI.cell (i := 7) rfl); (try have c8 := hI.cell (i := 8) rfl); (try have c9 := hI.cell (i := 9) rfl); (try have c10 := hI.cell (i := 10) rfl); (try have c11 := hI.cell (i := 11) rfl); skip)
  go_returns
  exact Ret.bool (by rw [← H.out]) hI.below
theorem c_numbers (A : Option Addr) (c : Nat) (xs : List Int) (w : World) (hn : xs.length ≤ maxLen) (hL : Lies encI 1 w w.heap.size A xs) :
    Calls Try.prog 69 #[.slice A xs.length c] w (Ret (.bool (numsB xs)) w) := by
  have hI := Inv.start w
  have HL := Lib.hid hL
  clear hL
  go_enter Try.func69, Try.ntmps69
  go_wp2_with (go_at_call 84; (with_reducible refine (c_ContainsInt A c xs _ hn (hI.lies HL.out)).mono ?_); intro e w' hr; obtain ⟨rfl, hb⟩ := hr; have hI' := hI.on hb; (try replace HM1 := Lib.hid (HM1.out.grow hb)); (try replace HM2 := Lib.hid (HM2.out.grow hb)); (try replace HM3 := Lib.hid (HM3.out.grow hb)); (try replace HM4 := Lib.hid (HM4.out.grow hb)); (try clear hb); clear hI; have hI := hI'; clear hI'; (try simp only [List.cons_append, List.nil_append, List.set_cons_zero, List.set_cons_succ, List.setIfInBounds_toArray, Act.put, Act.eval, Array.getD_eq_getD_getElem?, List.getElem?_toArray, List.getElem?_cons_zero, List.getElem?_cons_succ, Option.getD_some] at hI); (try clear c0); (try clear c1); (try clear c2); (try clear c3); (try clear c4); (try clear c5); (try clear c6); (try clear c7); (try clear c8); (try clear c9); (try clear c10); (try clear c11); (try have c0 := hI.cell (i := 0) rfl); (try have c1 := hI.cell (i := 1) rfl); (try have c2 := hI.cell (i := 2) rfl); (try have c3 := hI.cell (i := 3) rfl); (try have c4 := hI.cell (i := 4) rfl); (try have c5 := hI.cell (i := 5) rfl); (try have c6 := hI.cell (i := 6) rfl); (try have c7 := hI.cell (i := 7) rfl); (try have c8 := hI.cell (i := 8) rfl); (try have c9 := hI.cell (i := 9) rfl); (try have c10 := hI.cell (i := 10) rfl); (try have c11 := hI.cell (i := 11) rfl); skip)
  go_returns
  exact Ret.bool (by simp) hI.below
theorem c_modck1 (y : Label) (b : Nat) (s : ByteArray) (W : World) (hb : b < W.heap.size) (hc : W.cell? ⟨b, 0, none⟩ = some (.string s)) :
    Calls Try.prog 72 #[.agg #[.string y.name, .int .i64 y.pos], .pointer (some ⟨b, 0, none⟩)] W (Ret (.bool (decide (y.name = s))) W) := by
  go_enter Try.func72, Try.ntmps72
  go_wp2
  go_returns
  exact Ret.bool (str_beq _ _) (by (repeat' (first | (with_reducible exact Below.refl _ _) | (with_reducible assumption) | (with_reducible refine Below.alloc ?_ ?_ _) | (with_reducible refine Below.drew ?_) | (with_reducible refine Below.setCell ?_ ?_ _) | (refine Below.trans ?_ (Below.mono (by with_reducible assumption) ?_)) | go_size)))
theorem c_modck2 (y : Import) (b : Nat) (n : Int) (W : World) (hn : i64 n) (hy : 0 ≤ y.slot ∧ y.slot ≤ 1000) (hn2 : 0 ≤ n ∧ n ≤ 1000) (hb : b < W.heap.size) (hc : W.cell? ⟨b, 1, none⟩ = some (.int .i64 n)) :
    Calls Try.prog 74 #[.agg #[.string y.name, .int .i64 y.slot], .pointer (some ⟨b, 0, none⟩)] W (Ret (.bool (nearB n y.slot)) W) := by
  obtain ⟨y1, y2⟩ := hy
  obtain ⟨n1, n2⟩ := hn2
  go_enter Try.func74, Try.ntmps74
  go_wp2
  all_goals
    go_returns
    exact Ret.bool (by unfold nearB; rw [Bool.eq_iff_iff]; simp; omega) (by (repeat' (first | (with_reducible exact Below.refl _ _) | (with_reducible assumption) | (with_reducible refine Below.alloc ?_ ?_ _) | (with_reducible refine Below.drew ?_) | (with_reducible refine Below.setCell ?_ ?_ _) | (refine Below.trans ?_ (Below.mono (by with_reducible assumption) ?_)) | go_size)))
theorem c_ContainsL (A : Option Addr) (c n : Nat) (xs : List Label) (b : Nat) (s : ByteArray) (w : World) (hxn : xs.length = n) (hn : xs.length ≤ maxLen) (hb : b < w.heap.size) (hc : w.cell? ⟨b, 0, none⟩ = some (.string s)) (hL : Lies encL 2 w w.heap.size A xs) :
    Calls Try.prog 71 #[.slice A n c, .func (.func 72) #[] #[.pointer (some ⟨b, 0, none⟩)]] w (Ret (.bool (xs.any fun y => decide (y.name = s))) w) := by
  subst hxn
  have H := Lib.hid (show decide (0 ≤ idxP (fun y : Label => decide (y.name = s)) xs) = xs.any fun y => decide (y.name = s) from idx_any)
  have hc' := Lib.hid (c_IndexFunc_L 72 #[.pointer (some ⟨b, 0, none⟩)] (fun y : Label => decide (y.name = s)) (enters_of Try.func72 (by kernel_rfl) rfl) A c xs w hn hL (fun x W' hW => c_modck1 x b s W' (Nat.lt_of_lt_of_le hb hW.size) ((hW.cell (p := ⟨b, 0, none⟩) hb).trans hc)))
  have hI := Inv.start w
  clear hL hc
  go_enter Try.func71, Try.ntmps71
  go_wp2_with (go_at_call 89; (with_reducible refine (hc'.out).mono ?_); intro e w' hr; obtain ⟨rfl, hb⟩ := hr; have hI' := hI.on hb; (try replace HM1 := Lib.hid (HM1.out.grow hb)); (try replace HM2 := Lib.hid (HM2.out.grow hb)); (try replace HM3 := Lib.hid (HM3.out.grow hb)); (try replace HM4 := Lib.hid (HM4.out.grow hb)); (try clear hb); clear hI; have hI := hI'; clear hI'; (try simp only [List.cons_append, List.nil_append, List.set_cons_zero, List.set_cons_succ, List.setIfInBounds_toArray, Act.put, Act.eval, Array.getD_eq_getD_getElem?, List.getElem?_toArray, List.getElem?_cons_zero, List.getElem?_cons_succ, Option.getD_some] at hI); (try clear c0); (try clear c1); (try clear c2); (try clear c3); (try clear c4); (try clear c5); (try clear c6); (try clear c7); (try clear c8); (try clear c9); (try clear c10); (try clear c11); (try have c0 := hI.cell (i := 0) rfl); (try have c1 := hI.cell (i := 1) rfl); (try have c2 := hI.cell (i := 2) rfl); (try have c3 := hI.cell (i := 3) rfl); (try have c4 := hI.cell (i := 4) rfl); (try have c5 := hI.cell (i := 5) rfl); (try have c6 := hI.cell (i := 6) rfl); (try have c7 := hI.cell (i := 7) rfl); (try have c8 := hI.cell (i := 8) rfl); (try have c9 := hI.cell (i := 9) rfl); (try have c10 := hI.cell (i := 10) rfl); (try have c11 := hI.cell (i := 11) rfl); skip)
  go_returns
  exact Ret.bool (by rw [← H.out]) hI.below
theorem c_ContainsM (A : Option Addr) (c n : Nat) (xs : List Import) (b : Nat) (s : Int) (w : World) (hxn : xs.length = n) (hn : xs.length ≤ maxLen) (hs : 0 ≤ s ∧ s ≤ 1000) (hxs : ∀ x ∈ xs, 0 ≤ x.slot ∧ x.slot ≤ 1000) (hb : b < w.heap.size) (hc : w.cell? ⟨b, 1, none⟩ = some (.int .i64 s)) (hL : Lies encM 2 w w.heap.size A xs) :
    Calls Try.prog 73 #[.slice A n c, .func (.func 74) #[] #[.pointer (some ⟨b, 0, none⟩)]] w (Ret (.bool (xs.any fun y => nearB s y.slot)) w) := by
  subst hxn
  have H := Lib.hid (show decide (0 ≤ idxP (fun y : Import => nearB s y.slot) xs) = xs.any fun y => nearB s y.slot from idx_any)
  have hc' := Lib.hid (c_IndexFuncIn_M 74 #[.pointer (some ⟨b, 0, none⟩)] (fun y : Import => nearB s y.slot) (enters_of Try.func74 (by kernel_rfl) rfl) A c xs w hn hL (fun x hx W' hW => c_modck2 x b s W' ⟨by omega, by omega⟩ (hxs x hx) hs (Nat.lt_of_lt_of_le hb hW.size) ((hW.cell (p := ⟨b, 0, none⟩) hb |> fun _ => (hW.cell (p := ⟨b, 1, none⟩) hb)).trans hc)))
  have hI := Inv.start w
  clear hL hc
  go_enter Try.func73, Try.ntmps73
  go_wp2_with (go_at_call 90; (with_reducible refine (hc'.out).mono ?_); intro e w' hr; obtain ⟨rfl, hb⟩ := hr; have hI' := hI.on hb; (try replace HM1 := Lib.hid (HM1.out.grow hb)); (try replace HM2 := Lib.hid (HM2.out.grow hb)); (try replace HM3 := Lib.hid (HM3.out.grow hb)); (try replace HM4 := Lib.hid (HM4.out.grow hb)); (try clear hb); clear hI; have hI := hI'; clear hI'; (try simp only [List.cons_append, List.nil_append, List.set_cons_zero, List.set_cons_succ, List.setIfInBounds_toArray, Act.put, Act.eval, Array.getD_eq_getD_getElem?, List.getElem?_toArray, List.getElem?_cons_zero, List.getElem?_cons_succ, Option.getD_some] at hI); (try clear c0); (try clear c1); (try clear c2); (try clear c3); (try clear c4); (try clear c5); (try clear c6); (try clear c7); (try clear c8); (try clear c9); (try clear c10); (try clear c11); (try have c0 := hI.cell (i := 0) rfl); (try have c1 := hI.cell (i := 1) rfl); (try have c2 := hI.cell (i := 2) rfl); (try have c3 := hI.cell (i := 3) rfl); (try have c4 := hI.cell (i := 4) rfl); (try have c5 := hI.cell (i := 5) rfl); (try have c6 := hI.cell (i := 6) rfl); (try have c7 := hI.cell (i := 7) rfl); (try have c8 := hI.cell (i := 8) rfl); (try have c9 := hI.cell (i := 9) rfl); (try have c10 := hI.cell (i := 10) rfl); (try have c11 := hI.cell (i := 11) rfl); skip)
  go_returns
  exact Ret.bool (by rw [← H.out]) hI.below
end Go.Proofs.Ythdlfepakkihnaa
