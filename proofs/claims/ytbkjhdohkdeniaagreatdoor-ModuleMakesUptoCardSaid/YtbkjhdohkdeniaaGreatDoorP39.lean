/- What the parts say: The contract of module.Check. Conditions: the numbers are numbers of 64 bits. -/
import Derived.Test.YtbkjhdohkdeniaaGreatDoorP37
import Derived.Test.YtbkjhdohkdeniaaGreatDoorP13
set_option linter.unusedVariables false
set_option linter.unusedSimpArgs false
namespace Go.Proofs.YtbkjhdohkdeniaaGreatDoor
open Go.RowKit
set_option maxRecDepth 100000
theorem idx_any {α : Type} {p : α → Bool} {l : List α} : decide (0 ≤ idxP p l) = l.any p := by
  unfold idxP idxFrom
  simp only [List.drop_zero]
  cases h : l.findIdx? p with
  | none =>
    rw [List.findIdx?_eq_none_iff] at h
    have : l.any p = false := by rw [Bool.eq_false_iff, ne_eq, List.any_eq_true]; rintro ⟨x, hx, hp⟩; rw [h x hx] at hp; cases hp
    rw [this]; simp
  | some i =>
    have h1 : (l.findIdx? p).isSome = true := by rw [h]; rfl
    rw [List.findIdx?_isSome] at h1
    rw [h1]; simp
set_option maxHeartbeats 1000000 in
theorem c_IndexFuncIn_L (g : Nat) (cap : Array Value) (pr : Label → Bool) (eg : ∀ args w, (callFunc g args).run Tryz.prog w = .ok (.enter g args) w) (A : Option Addr) (c : Nat) (xs : List Label) (w : World) (hn : xs.length ≤ maxLen) (hL : Lies encL 2 w w.heap.size A xs)
    (hp : ∀ x ∈ xs, ∀ W, Below w.heap.size w W → Calls Tryz.prog g (#[.agg #[.string x.name, .int .i64 x.pos]] ++ cap) W (Ret (.bool (pr x)) W)) :
    Calls Tryz.prog 102 #[.slice A xs.length c, .func (.func g) #[] cap] w (Ret (.int .i64 (idxP pr xs)) w) := by
  have hlen : xs.length ≤ 9223372036854775807 := by unfold maxLen at hn; omega
  clear hn
  have HP := Lib.hid hp
  clear hp
  go_enter Tryz.func102, Tryz.ntmps102
  go_wp2
  go_loopw [5, 8] (fun _ v wr => ∃ k : Nat, v = .int .i64 k ∧ k ≤ xs.length ∧ idxP pr xs = idxFrom pr xs k ∧ Below w.heap.size w wr) (fun _ v _ => (xs.length - intOf v).toNat)
  case atStart => exact ⟨0, rfl, by omega, rfl, by (repeat' (first | (with_reducible exact Below.refl _ _) | (with_reducible assumption) | (with_reducible refine Below.alloc ?_ ?_ _) | (with_reducible refine Below.drew ?_) | (with_reducible refine Below.setCell ?_ ?_ _) | (refine Below.trans ?_ (Below.mono (by with_reducible assumption) ?_)) | go_size))⟩
  case round =>
    obtain ⟨k, rfl, hk, he, hbw⟩ := hrel
    have hbz := hbw.size
    have HF := Lib.hid he
    clear he
    rcases Nat.lt_or_ge k xs.length with hlt | hge
    · obtain ⟨bk, o, p, rfl, hbk, hp, q0, q1⟩ := (hL.below hbw).cellsL hlt
      have HX := Lib.hid hp
      clear hp
      have hcall := HP.out p (List.mem_of_getElem? HX.out) wr hbw
      cases hq : pr p
      · have H := Lib.hid (HF.out.trans (idxFrom_no HX.out hq))
        have HC := Lib.hid hcall
        rw [hq] at HC
        clear hcall hq
        go_wp2_with (go_at_fn g; refine HC.out.mono ?_; intro e w1 hr; obtain ⟨rfl, hb, hc, hf, hz⟩ := hr.use; clear hr)
        go_roundw
        case rel => exact ⟨k + 1, by go_num, by omega, H.out, by (repeat' (first | (with_reducible exact Below.refl _ _) | (with_reducible assumption) | (with_reducible refine Below.alloc ?_ ?_ _) | (with_reducible refine Below.drew ?_) | (with_reducible refine Below.setCell ?_ ?_ _) | (refine Below.trans ?_ (Below.mono (by with_reducible assumption) ?_)) | go_size))⟩
        case measure => simp [intOf]; omega
      · have H := Lib.hid (HF.out.trans (idxFrom_yes HX.out hq))
        have HC := Lib.hid hcall
        rw [hq] at HC
        clear hcall hq
        go_wp2_with (go_at_fn g; refine HC.out.mono ?_; intro e w1 hr; obtain ⟨rfl, hb, hc, hf, hz⟩ := hr.use; clear hr)
        go_returns
        exact Ret.int H.out.symm (by (repeat' (first | (with_reducible exact Below.refl _ _) | (with_reducible assumption) | (with_reducible refine Below.alloc ?_ ?_ _) | (with_reducible refine Below.drew ?_) | (with_reducible refine Below.setCell ?_ ?_ _) | (refine Below.trans ?_ (Below.mono (by with_reducible assumption) ?_)) | go_size)))
    · have H := Lib.hid (HF.out.trans (idxFrom_end hge))
      go_wp2
      go_returns
      exact Ret.int H.out.symm (by (repeat' (first | (with_reducible exact Below.refl _ _) | (with_reducible assumption) | (with_reducible refine Below.alloc ?_ ?_ _) | (with_reducible refine Below.drew ?_) | (with_reducible refine Below.setCell ?_ ?_ _) | (refine Below.trans ?_ (Below.mono (by with_reducible assumption) ?_)) | go_size)))
theorem c_IndexFunc_L (g : Nat) (cap : Array Value) (pr : Label → Bool) (eg : ∀ args w, (callFunc g args).run Tryz.prog w = .ok (.enter g args) w) (A : Option Addr) (c : Nat) (xs : List Label) (w : World) (hn : xs.length ≤ maxLen) (hL : Lies encL 2 w w.heap.size A xs)
    (hp : ∀ x W, Below w.heap.size w W → Calls Tryz.prog g (#[.agg #[.string x.name, .int .i64 x.pos]] ++ cap) W (Ret (.bool (pr x)) W)) :
    Calls Tryz.prog 102 #[.slice A xs.length c, .func (.func g) #[] cap] w (Ret (.int .i64 (idxP pr xs)) w) := c_IndexFuncIn_L g cap pr eg A c xs w hn hL fun x _ => hp x
set_option maxHeartbeats 1000000 in
theorem c_IndexFuncIn_M (g : Nat) (cap : Array Value) (pr : Import → Bool) (eg : ∀ args w, (callFunc g args).run Tryz.prog w = .ok (.enter g args) w) (A : Option Addr) (c : Nat) (xs : List Import) (w : World) (hn : xs.length ≤ maxLen) (hL : Lies encM 2 w w.heap.size A xs)
    (hp : ∀ x ∈ xs, ∀ W, Below w.heap.size w W → Calls Tryz.prog g (#[.agg #[.string x.name, .int .i64 x.slot]] ++ cap) W (Ret (.bool (pr x)) W)) :
    Calls Tryz.prog 103 #[.slice A xs.length c, .func (.func g) #[] cap] w (Ret (.int .i64 (idxP pr xs)) w) := by
  have hlen : xs.length ≤ 9223372036854775807 := by unfold maxLen at hn; omega
  clear hn
  have HP := Lib.hid hp
  clear hp
  go_enter Tryz.func103, Tryz.ntmps103
  go_wp2
  go_loopw [5, 8] (fun _ v wr => ∃ k : Nat, v = .int .i64 k ∧ k ≤ xs.length ∧ idxP pr xs = idxFrom pr xs k ∧ Below w.heap.size w wr) (fun _ v _ => (xs.length - intOf v).toNat)
  case atStart => exact ⟨0, rfl, by omega, rfl, by (repeat' (first | (with_reducible exact Below.refl _ _) | (with_reducible assumption) | (with_reducible refine Below.alloc ?_ ?_ _) | (with_reducible refine Below.drew ?_) | (with_reducible refine Below.setCell ?_ ?_ _) | (refine Below.trans ?_ (Below.mono (by with_reducible assumption) ?_)) | go_size))⟩
  case round =>
    obtain ⟨k, rfl, hk, he, hbw⟩ := hrel
    have hbz := hbw.size
    have HF := Lib.hid he
    clear he
    rcases Nat.lt_or_ge k xs.length with hlt | hge
    · obtain ⟨bk, o, p, rfl, hbk, hp, q0, q1⟩ := (hL.below hbw).cellsM hlt
      have HX := Lib.hid hp
      clear hp
      have hcall := HP.out p (List.mem_of_getElem? HX.out) wr hbw
      cases hq : pr p
      · have H := Lib.hid (HF.out.trans (idxFrom_no HX.out hq))
        have HC := Lib.hid hcall
        rw [hq] at HC
        clear hcall hq
        go_wp2_with (go_at_fn g; refine HC.out.mono ?_; intro e w1 hr; obtain ⟨rfl, hb, hc, hf, hz⟩ := hr.use; clear hr)
        go_roundw
        case rel => exact ⟨k + 1, by go_num, by omega, H.out, by (repeat' (first | (with_reducible exact Below.refl _ _) | (with_reducible assumption) | (with_reducible refine Below.alloc ?_ ?_ _) | (with_reducible refine Below.drew ?_) | (with_reducible refine Below.setCell ?_ ?_ _) | (refine Below.trans ?_ (Below.mono (by with_reducible assumption) ?_)) | go_size))⟩
        case measure => simp [intOf]; omega
      · have H := Lib.hid (HF.out.trans (idxFrom_yes HX.out hq))
        have HC := Lib.hid hcall
        rw [hq] at HC
        clear hcall hq
        go_wp2_with (go_at_fn g; refine HC.out.mono ?_; intro e w1 hr; obtain ⟨rfl, hb, hc, hf, hz⟩ := hr.use; clear hr)
        go_returns
        exact Ret.int H.out.symm (by (repeat' (first | (with_reducible exact Below.refl _ _) | (with_reducible assumption) | (with_reducible refine Below.alloc ?_ ?_ _) | (with_reducible refine Below.drew ?_) | (with_reducible refine Below.setCell ?_ ?_ _) | (refine Below.trans ?_ (Below.mono (by with_reducible assumption) ?_)) | go_size)))
    · have H := Lib.hid (HF.out.trans (idxFrom_end hge))
      go_wp2
      go_returns
      exact Ret.int H.out.symm (by (repeat' (first | (with_reducible exact Below.refl _ _) | (with_reducible assumption) | (with_reducible refine Below.alloc ?_ ?_ _) | (with_reducible refine Below.drew ?_) | (with_reducible refine Below.setCell ?_ ?_ _) | (refine Below.trans ?_ (Below.mono (by with_reducible assumption) ?_)) | go_size)))
set_option maxHeartbeats 1000000 in
theorem c_numbers1 (n : Int) (w : World) : Calls Tryz.prog 98 #[.int .i64 n] w (Ret (.bool (n != wr n)) w) := by
  go_enter Tryz.func98, Tryz.ntmps98
  go_wp2_with (go_at_call 99; (with_reducible refine (c_num_Wrap _ _).mono ?_); rintro e w1 ⟨rfl, rfl⟩)
  go_returns
  exact Ret.bool rfl (by (repeat' (first | (with_reducible exact Below.refl _ _) | (with_reducible assumption) | (with_reducible refine Below.alloc ?_ ?_ _) | (with_reducible refine Below.drew ?_) | (with_reducible refine Below.setCell ?_ ?_ _) | (refine Below.trans ?_ (Below.mono (by with_reducible assumption) ?_)) | go_size)))
theorem c_ContainsInt (A : Option Addr) (c : Nat) (xs : List Int) (w : World) (hn : xs.length ≤ maxLen) (hL : Lies encI 1 w w.heap.size A xs) :
    Calls Tryz.prog 97 #[.slice A xs.length c, .func (.func 98) #[] #[]] w (Ret (.bool (!numsB xs)) w) := by
  have H := Lib.hid (show decide (0 ≤ idxP (fun n => n != wr n) xs) = !numsB xs by rw [idx_any]; unfold numsB; rw [List.any_eq_not_all_not]; simp [bne])
  have hc := Lib.hid (fun W hL => c_IndexFunc_I 98 #[] (fun n => n != wr n) (enters_of Tryz.func98 (by kernel_rfl) rfl) A c xs W hn hL (fun x W' _ => c_numbers1 x W'))
  have hI := Inv.start w
  have HL := Lib.hid hL
  clear hL
  go_enter Tryz.func97, Tryz.ntmps97
  go_wp2_with (go_at_call 159; (with_reducible refine (hc.out _ (hI.lies HL.out)).mono ?_); intro e w' hr; obtain ⟨rfl, hb⟩ := hr; have hI' := hI.on hb; (try clear hb); clear hI; have hI := hI'; clear hI'; (try simp only [mm, Act.put, Act.eval] at hI); (try clear c0); (try clear c1); (try clear c2); (try clear c3); (try clear c4); (try clear c5); (try have c0 := hI.cell (i := 0) rfl); (try have c1 := hI.cell (i := 1) rfl); (try have c2 := hI.cell (i := 2) rfl); (try have c3 := hI.cell (i := 3) rfl); (try have c4 := hI.cell (i := 4) rfl); (try have c5 := hI.cell (i := 5) rfl); skip)
  go_returns
  exact Ret.bool (by rw [← H.out]) hI.below
theorem c_numbers (A : Option Addr) (c : Nat) (xs : List Int) (w : World) (hn : xs.length ≤ maxLen) (hL : Lies encI 1 w w.heap.size A xs) :
    Calls Tryz.prog 47 #[.slice A xs.length c] w (Ret (.bool (numsB xs)) w) := by
  have hI := Inv.start w
  have HL := Lib.hid hL
  clear hL
  go_enter Tryz.func47, Tryz.ntmps47
  go_wp2_with (go_at_call 97; (with_reducible refine (c_ContainsInt A c xs _ hn (hI.lies HL.out)).mono ?_); intro e w' hr; obtain ⟨rfl, hb⟩ := hr; have hI' := hI.on hb; (try clear hb); clear hI; have hI := hI'; clear hI'; (try simp only [mm, Act.put, Act.eval] at hI); (try clear c0); (try clear c1); (try clear c2); (try clear c3); (try clear c4); (try clear c5); (try have c0 := hI.cell (i := 0) rfl); (try have c1 := hI.cell (i := 1) rfl); (try have c2 := hI.cell (i := 2) rfl); (try have c3 := hI.cell (i := 3) rfl); (try have c4 := hI.cell (i := 4) rfl); (try have c5 := hI.cell (i := 5) rfl); skip)
  go_returns
  exact Ret.bool (by simp) hI.below
theorem c_modck1 (y : Label) (b : Nat) (s : ByteArray) (W : World) (hb : b < W.heap.size) (hc : W.cell? ⟨b, 0, none⟩ = some (.string s)) :
    Calls Tryz.prog 50 #[.agg #[.string y.name, .int .i64 y.pos], .pointer (some ⟨b, 0, none⟩)] W (Ret (.bool (decide (y.name = s))) W) := by
  go_enter Tryz.func50, Tryz.ntmps50
  go_wp2
  go_returns
  exact Ret.bool (str_beq _ _) (by (repeat' (first | (with_reducible exact Below.refl _ _) | (with_reducible assumption) | (with_reducible refine Below.alloc ?_ ?_ _) | (with_reducible refine Below.drew ?_) | (with_reducible refine Below.setCell ?_ ?_ _) | (refine Below.trans ?_ (Below.mono (by with_reducible assumption) ?_)) | go_size)))
theorem c_modck2 (y : Import) (b : Nat) (n : Int) (W : World) (hn : i64 n) (hy : 0 ≤ y.slot ∧ y.slot ≤ 1000) (hn2 : 0 ≤ n ∧ n ≤ 1000) (hb : b < W.heap.size) (hc : W.cell? ⟨b, 1, none⟩ = some (.int .i64 n)) :
    Calls Tryz.prog 52 #[.agg #[.string y.name, .int .i64 y.slot], .pointer (some ⟨b, 0, none⟩)] W (Ret (.bool (nearB n y.slot)) W) := by
  obtain ⟨y1, y2⟩ := hy
  obtain ⟨n1, n2⟩ := hn2
  go_enter Tryz.func52, Tryz.ntmps52
  go_wp2
  all_goals
    go_returns
    exact Ret.bool (by unfold nearB; rw [Bool.eq_iff_iff]; simp; omega) (by (repeat' (first | (with_reducible exact Below.refl _ _) | (with_reducible assumption) | (with_reducible refine Below.alloc ?_ ?_ _) | (with_reducible refine Below.drew ?_) | (with_reducible refine Below.setCell ?_ ?_ _) | (refine Below.trans ?_ (Below.mono (by with_reducible assumption) ?_)) | go_size)))
theorem c_ContainsL (A : Option Addr) (c n : Nat) (xs : List Label) (b : Nat) (s : ByteArray) (w : World) (hxn : xs.length = n) (hn : xs.length ≤ maxLen) (hb : b < w.heap.size) (hc : w.cell? ⟨b, 0, none⟩ = some (.string s)) (hL : Lies encL 2 w w.heap.size A xs) :
    Calls Tryz.prog 49 #[.slice A n c, .func (.func 50) #[] #[.pointer (some ⟨b, 0, none⟩)]] w (Ret (.bool (xs.any fun y => decide (y.name = s))) w) := by
  subst hxn
  have H := Lib.hid (show decide (0 ≤ idxP (fun y : Label => decide (y.name = s)) xs) = xs.any fun y => decide (y.name = s) from idx_any)
  have hc' := Lib.hid (c_IndexFunc_L 50 #[.pointer (some ⟨b, 0, none⟩)] (fun y : Label => decide (y.name = s)) (enters_of Tryz.func50 (by kernel_rfl) rfl) A c xs w hn hL (fun x W' hW => c_modck1 x b s W' (Nat.lt_of_lt_of_le hb hW.size) ((hW.cell (p := ⟨b, 0, none⟩) hb).trans hc)))
  have hI := Inv.start w
  clear hL hc
  go_enter Tryz.func49, Tryz.ntmps49
  go_wp2_with (go_at_call 102; (with_reducible refine (hc'.out).mono ?_); intro e w' hr; obtain ⟨rfl, hb⟩ := hr; have hI' := hI.on hb; (try clear hb); clear hI; have hI := hI'; clear hI'; (try simp only [mm, Act.put, Act.eval] at hI); (try clear c0); (try clear c1); (try clear c2); (try clear c3); (try clear c4); (try clear c5); (try have c0 := hI.cell (i := 0) rfl); (try have c1 := hI.cell (i := 1) rfl); (try have c2 := hI.cell (i := 2) rfl); (try have c3 := hI.cell (i := 3) rfl); (try have c4 := hI.cell (i := 4) rfl); (try have c5 := hI.cell (i := 5) rfl); skip)
  go_returns
  exact Ret.bool (by rw [← H.out]) hI.below
theorem c_ContainsM (A : Option Addr) (c n : Nat) (xs : List Import) (b : Nat) (s : Int) (w : World) (hxn : xs.length = n) (hn : xs.length ≤ maxLen) (hs : 0 ≤ s ∧ s ≤ 1000) (hxs : ∀ x ∈ xs, 0 ≤ x.slot ∧ x.slot ≤ 1000) (hb : b < w.heap.size) (hc : w.cell? ⟨b, 1, none⟩ = some (.int .i64 s)) (hL : Lies encM 2 w w.heap.size A xs) :
    Calls Tryz.prog 51 #[.slice A n c, .func (.func 52) #[] #[.pointer (some ⟨b, 0, none⟩)]] w (Ret (.bool (xs.any fun y => nearB s y.slot)) w) := by
  subst hxn
  have H := Lib.hid (show decide (0 ≤ idxP (fun y : Import => nearB s y.slot) xs) = xs.any fun y => nearB s y.slot from idx_any)
  have hc' := Lib.hid (c_IndexFuncIn_M 52 #[.pointer (some ⟨b, 0, none⟩)] (fun y : Import => nearB s y.slot) (enters_of Tryz.func52 (by kernel_rfl) rfl) A c xs w hn hL (fun x hx W' hW => c_modck2 x b s W' ⟨by omega, by omega⟩ (hxs x hx) hs (Nat.lt_of_lt_of_le hb hW.size) ((hW.cell (p := ⟨b, 0, none⟩) hb |> fun _ => (hW.cell (p := ⟨b, 1, none⟩) hb)).trans hc)))
  have hI := Inv.start w
  clear hL hc
  go_enter Tryz.func51, Tryz.ntmps51
  go_wp2_with (go_at_call 103; (with_reducible refine (hc'.out).mono ?_); intro e w' hr; obtain ⟨rfl, hb⟩ := hr; have hI' := hI.on hb; (try clear hb); clear hI; have hI := hI'; clear hI'; (try simp only [mm, Act.put, Act.eval] at hI); (try clear c0); (try clear c1); (try clear c2); (try clear c3); (try clear c4); (try clear c5); (try have c0 := hI.cell (i := 0) rfl); (try have c1 := hI.cell (i := 1) rfl); (try have c2 := hI.cell (i := 2) rfl); (try have c3 := hI.cell (i := 3) rfl); (try have c4 := hI.cell (i := 4) rfl); (try have c5 := hI.cell (i := 5) rfl); skip)
  go_returns
  exact Ret.bool (by rw [← H.out]) hI.below
end Go.Proofs.YtbkjhdohkdeniaaGreatDoor
namespace Go.Proofs.YtbkjhdohkdeniaaGreatDoor
open Go.RowKit
set_option maxRecDepth 100000
set_option maxHeartbeats 1000000 in
theorem r_Has_I (A : Option Addr) (c : Nat) (xs : List Int) (x : Int) (w : World) (hn : xs.length ≤ maxLen) (hL : Lies encI 1 w w.heap.size A xs) :
    Calls Tryz.prog 96 #[.slice A xs.length c, .int .i64 x] w (Ret (.bool (xs.any fun y => decide (y = x))) w) := by
  have hI := Inv.start w
  have HL := Lib.hid hL
  have hmx : xs.length ≤ 9223372036854775807 := by unfold maxLen at hn; omega
  clear hL hn
  go_enter Tryz.func96, Tryz.ntmps96
  go_wp2_with fail
  go_loopw [9] (fun v wr => ∃ k : Nat, v = .int .i64 k ∧ k ≤ xs.length ∧ (∀ j, j < k → xs[j]? ≠ some x) ∧ Inv w [] wr) (fun v _ => (xs.length - intOf v).toNat)
  case atStart => exact ⟨0, rfl, by omega, fun j hj => by omega, hI⟩
  case round =>
    clear hI
    obtain ⟨k, rfl, hk, hall, hI⟩ := hrel
    have HA := Lib.hid hall
    clear hall
    rcases Nat.lt_or_ge k xs.length with hlt | hge
    · obtain ⟨b, o, p, rfl, hb, hp, q0⟩ := (hI.lies HL.out).cellsI hlt
      have HP := Lib.hid hp
      clear hp
      cases hd : (x == p)
      · have hne : ¬ x = p := by simpa using hd
        have H := Lib.hid (show ∀ j, j < k + 1 → xs[j]? ≠ some x from fun j hj => by
          rcases Nat.lt_or_ge j k with h | h
          · exact HA.out j h
          · obtain rfl : j = k := by omega
            rw [HP.out]; exact fun h => hne (Option.some.inj h).symm)
        clear hne
        go_wp2_with fail
        go_roundw
        case rel => exact ⟨k + 1, by go_num, by omega, H.out, hI⟩
        case measure => simp [intOf]; omega
      · have H := Lib.hid (show (xs.any fun y => decide (y = x)) = true from (by
          have hx : x = p := by simpa using hd
          rw [List.any_eq_true]; exact ⟨p, List.mem_of_getElem? HP.out, decide_eq_true hx.symm⟩))
        go_wp2_with fail
        go_returns
        exact Ret.bool H.out.symm hI.below
    · have H := Lib.hid (show (xs.any fun y => decide (y = x)) = false from by
        rw [Bool.eq_false_iff, ne_eq, List.any_eq_true]
        rintro ⟨y, hy, hx⟩
        obtain ⟨j, hj⟩ := List.getElem?_of_mem hy
        rw [of_decide_eq_true hx] at hj
        exact HA.out j (by have := (List.getElem?_eq_some_iff.1 hj).1; omega) hj)
      go_wp2_with fail
      go_returns
      exact Ret.bool H.out.symm hI.below
set_option maxHeartbeats 1000000 in
theorem r_Has_S (A : Option Addr) (c : Nat) (xs : List ByteArray) (x : ByteArray) (w : World) (hn : xs.length ≤ maxLen) (hL : Lies encS 1 w w.heap.size A xs) :
    Calls Tryz.prog 95 #[.slice A xs.length c, .string x] w (Ret (.bool (xs.any fun y => decide (y = x))) w) := by
  have hI := Inv.start w
  have HL := Lib.hid hL
  have hmx : xs.length ≤ 9223372036854775807 := by unfold maxLen at hn; omega
  clear hL hn
  go_enter Tryz.func95, Tryz.ntmps95
  go_wp2_with fail
  go_loopw [9] (fun v wr => ∃ k : Nat, v = .int .i64 k ∧ k ≤ xs.length ∧ (∀ j, j < k → xs[j]? ≠ some x) ∧ Inv w [] wr) (fun v _ => (xs.length - intOf v).toNat)
  case atStart => exact ⟨0, rfl, by omega, fun j hj => by omega, hI⟩
  case round =>
    clear hI
    obtain ⟨k, rfl, hk, hall, hI⟩ := hrel
    have HA := Lib.hid hall
    clear hall
    rcases Nat.lt_or_ge k xs.length with hlt | hge
    · obtain ⟨b, o, p, rfl, hb, hp, q0⟩ := (hI.lies HL.out).cellsS hlt
      have HP := Lib.hid hp
      clear hp
      cases hd : (x.toList == p.toList)
      · have hne : ¬ x = p := by rw [str_beq] at hd; exact of_decide_eq_false hd
        have H := Lib.hid (show ∀ j, j < k + 1 → xs[j]? ≠ some x from fun j hj => by
          rcases Nat.lt_or_ge j k with h | h
          · exact HA.out j h
          · obtain rfl : j = k := by omega
            rw [HP.out]; exact fun h => hne (Option.some.inj h).symm)
        clear hne
        go_wp2_with fail
        go_roundw
        case rel => exact ⟨k + 1, by go_num, by omega, H.out, hI⟩
        case measure => simp [intOf]; omega
      · have H := Lib.hid (show (xs.any fun y => decide (y = x)) = true from (by
          have hx : x = p := by rw [str_beq] at hd; exact of_decide_eq_true hd
          rw [List.any_eq_true]; exact ⟨p, List.mem_of_getElem? HP.out, decide_eq_true hx.symm⟩))
        go_wp2_with fail
        go_returns
        exact Ret.bool H.out.symm hI.below
    · have H := Lib.hid (show (xs.any fun y => decide (y = x)) = false from by
        rw [Bool.eq_false_iff, ne_eq, List.any_eq_true]
        rintro ⟨y, hy, hx⟩
        obtain ⟨j, hj⟩ := List.getElem?_of_mem hy
        rw [of_decide_eq_true hx] at hj
        exact HA.out j (by have := (List.getElem?_eq_some_iff.1 hj).1; omega) hj)
      go_wp2_with fail
      go_returns
      exact Ret.bool H.out.symm hI.below
section
variable {P : Program} {ops : Array Oper} {rest : List Oper} {o : Oper} {a : Act} {T : Nat → Prop} {w0 w : World} {rs : List Res} {K : Act → World → Prop} {Q : Exit → Act → World → Prop}
end
theorem InvT.liesL {α : Type} {enc : α → List Value} {size : Nat} {T : Nat → Prop} {w0 w : World} {rs : List Res} (h : InvT T w0 rs w) {i g : Nat} {t : TypeId} {us : List Value} (hi : rs[i]? = some (.box g t us.toArray)) (xs : List α) (hx : us = xs.flatMap enc) (hl : ∀ x, (enc x).length = size) : Lies enc size w (g + 1) (some ⟨g, 0, none⟩) xs := fun _ => by
  refine ⟨g, 0, rfl, Nat.lt_succ_self _, fun k y hy j hj => ?_⟩
  rw [Nat.zero_add, h.cell hi, List.getElem?_toArray, hx]
  exact flat_at hl hy hj
end Go.Proofs.YtbkjhdohkdeniaaGreatDoor
