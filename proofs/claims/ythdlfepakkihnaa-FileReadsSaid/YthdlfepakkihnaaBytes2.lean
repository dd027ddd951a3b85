/- The sum of bytes, one byte as a string. Conditions: none. -/
import Derived.Test.YthdlfepakkihnaaBytes
namespace Go.Proofs.Ythdlfepakkihnaa
open Go.RowKit
set_option linter.unusedVariables false
set_option linter.unusedSimpArgs false
set_option maxRecDepth 100000
theorem str_at {l : List UInt8} {k : Nat} {c : UInt8} (h : l[k]? = some c) : (str l).data.toList[k]? = some c := by rw [str_list]; exact h
theorem str_get {l : List UInt8} {k : Nat} {c : UInt8} (h : l[k]? = some c) (hs : k < (str l).size) : (str l)[k] = c := by
  have e : (str l)[k] = l[k]'(getElem?_lt h) := rfl
  rw [e]; exact Option.some.inj ((List.getElem?_eq_getElem _).symm.trans h)
theorem r_sumOf (l : List UInt8) (hl : l.length ≤ 100000) (w : World) : Calls Try.prog 44 #[.string (str l)] w (Ret (.int .i64 (sumB l)) w) := by
  have hs := str_size l
  go_enter Try.func44, Try.ntmps44
  go_wp2_with fail
  go_loop [3, 7] (fun v i => ∃ k : Nat, k ≤ l.length ∧ i = .int .i64 k ∧ v = .int .i64 (sumB (l.take k))) (fun _ i => l.length - (intOf i).toNat)
  case atStart => exact ⟨0, by omega, rfl, rfl⟩
  case round =>
    obtain ⟨k, hk, rfl, rfl⟩ := hrel
    rcases Nat.lt_or_ge k l.length with hlt | hge
    · obtain ⟨c, hc⟩ : ∃ c, l[k]? = some c := ⟨_, List.getElem?_eq_getElem hlt⟩
      have hsz : k < (str l).size := by rw [hs]; exact hlt
      have hat := str_get hc hsz
      obtain ⟨b1, b2⟩ := sumB_bd (l.take k)
      rw [List.length_take] at b2
      have hc8 := c.toNat_lt
      go_wp2_with fail
      go_round
      case rel => exact ⟨k + 1, by omega, by go_num, by rw [sumB_take hc]⟩
      case measure => simp [intOf]; omega
    · obtain rfl : k = l.length := by omega
      rw [List.take_length]
      go_wp2_with fail
      go_returns
      exact ⟨rfl, Below.refl _ _⟩
theorem el_8 : ElT Try.prog enc8 90 5 1 1 where
  under := Try.underlying90
  info := by
    obtain ⟨i0, hi, hz0, hz1, hz2⟩ := info_parts (show (Try.prog.info? 5).map (fun i => (i.zero, i.size, i.bytes)) = some (some (.int .u8 0), 1, 1) by kernel_rfl)
    exact ⟨i0, _, hi, hz0, hz1, hz2, rfl⟩
  pos := by decide
  len := len_8
  one := fun x u hu => by
    simp only [enc8, List.mem_cons, List.not_mem_nil, or_false] at hu
    rcases hu with rfl; rfl
section
variable {P : Program} {ops : Array Oper} {rest : List Oper} {o : Oper} {a : Act} {w : World} {K : Act → World → Prop} {Q : Exit → Act → World → Prop}
theorem run_str {B : Nat} {A : Option Addr} {xs : List UInt8} (hL : Lies enc8 1 w B A xs) (src dst e : TypeId) (c : Nat) (hs : P.underlying src = some (.slice e)) (he : P.underlying e = some (.int .u8)) (hd : P.underlying dst = some .string) : (convert src dst (.slice A xs.length c)).run P w = .ok (.string (str xs)) w := by
  cases xs with
  | nil =>
    cases A with
    | none => exact run_convert_bytes_nil w src e hs he _ _ dst hd
    | some p => exact run_convert_bytes_back w src dst e p c [] hs he hd (fun j hj => absurd hj (by simp))
  | cons x xs =>
    obtain ⟨b, off, rfl, hb, h⟩ := hL (by simp)
    exact run_convert_bytes_back w src dst e ⟨b, off, none⟩ c (x :: xs) hs he hd (fun j hj => by
      have := h j _ (List.getElem?_eq_getElem hj) 0 (by decide)
      have e : (⟨b, off, none⟩ : Addr).add j = ⟨b, off + j, none⟩ := by unfold Addr.add; split <;> simp_all
      rw [e]
      simpa [enc8] using this)
/-- a row of bytes turned into a string -/
theorem wpI_str (src dst : TypeId) (x : Operand) (ho : o.op = .convert src dst x) {B : Nat} {A : Option Addr} {xs : List UInt8} {n c : Nat} (hx : a.eval x = .slice A n c) (hL : Lies enc8 1 w B A xs) (hn : xs.length = n) {e : TypeId} (hs : P.underlying src = some (.slice e)) (he : P.underlying e = some (.int .u8)) (hd : P.underlying dst = some .string)
    (h : K (a.put o.dst (.string (str xs))) w) : o.wp P a w K Q := by
  subst hn
  unfold Oper.wp execOp
  simp only [ho, hx, Sem.run_bind, Sem.run_pure, Result.andThen_ok, run_str hL src dst e c hs he hd]
  exact h
end
theorem enc8_mod (n : Int) : enc8 (u8 n) = [.int .u8 (n % 256)] := by unfold enc8; rw [u8_int]
theorem one8 (n : Int) : ∀ j, j < 1 → #[Value.int .u8 (n % 256)][j]? = (enc8 (u8 n))[j]? := fun j hj => by
  obtain rfl : j = 0 := by omega
  rw [enc8_mod]; rfl
theorem r_chr (n : Int) (w : World) : Calls Try.prog 41 #[.int .i64 n] w (Ret (.string (str [u8 n])) w) := by
  have hI := Inv.start w
  go_enter Try.func41, Try.ntmps41
  have hL := Lies.single w #[.int .u8 (n % 256)] 5 (u8 n) (enc := enc8) (size := 1) (one8 n)
  go_wp2_with (first | (refine listI rfl fun K hK => wpI_str 90 9 _ rfl rfl hL rfl Try.underlying90 Try.underlying5 Try.underlying9 (hK _ _ ?_); clear hK K) | fail)
  go_returns
  exact ⟨rfl, by (repeat' (first | (with_reducible exact Below.refl _ _) | (with_reducible assumption) | (with_reducible refine Below.alloc ?_ ?_ _) | (with_reducible refine Below.drew ?_) | (with_reducible refine Below.setCell ?_ ?_ _) | (refine Below.trans ?_ (Below.mono (by with_reducible assumption) ?_)) | go_size))⟩
theorem r_High (k : Nat) (hk : k ≤ 8) : ∀ (n : Int) (h0 : 0 ≤ n) (h1 : n ≤ 9223372036854775807) (w : World), Calls Try.prog 43 #[.int .i64 n, .int .i64 k] w (Ret (.string (str (high n k))) w) := by
  induction k with
  | zero =>
    intro n h0 h1 w
    go_enter Try.func43, Try.ntmps43
    go_wp2_with fail
    go_returns
    exact ⟨rfl, Below.refl _ _⟩
  | succ k ih =>
    intro n h0 h1 w
    have hd : n.tdiv 256 = n / 256 := Int.tdiv_eq_ediv_of_nonneg h0
    have hm : n.tmod 256 = n % 256 := Int.tmod_eq_emod_of_nonneg h0
    have hu : u8 (n % 256) = u8 n := by unfold u8; rw [Int.emod_emod]
    have q0 : 0 ≤ n / 256 := by omega
    have q1 : n / 256 ≤ 9223372036854775807 := by omega
    have IH := Lib.hid (ih (by omega) (n / 256) q0 q1)
    have hI := Inv.start w
    have hz : ((k : Int) + 1 = 0) = False := by simp; omega
    have z1 : (str (high (n / 256) k)).size = k := by rw [str_size, high_len]
    have z2 : (str [u8 n]).size = 1 := str_size _
    have z3 : str (high (n / 256) k) ++ str [u8 n] = str (high n (k + 1)) := str_app _ _
    clear ih
    go_enter Try.func43, Try.ntmps43
    go_wp2_with (first | (go_at_call 43; (with_reducible refine (IH.out _).mono ?_); intro e w' hr; obtain ⟨rfl, hb⟩ := hr; have hI' := hI.on hb; (try replace HM1 := Lib.hid (HM1.out.grow hb)); (try replace HM2 := Lib.hid (HM2.out.grow hb)); (try replace HM3 := Lib.hid (HM3.out.grow hb)); (try replace HM4 := Lib.hid (HM4.out.grow hb)); (try clear hb); clear hI; have hI := hI'; clear hI'; (try simp only [List.cons_append, List.nil_append, List.set_cons_zero, List.set_cons_succ, List.setIfInBounds_toArray, Act.put, Act.eval, Array.getD_eq_getD_getElem?, List.getElem?_toArray, List.getElem?_cons_zero, List.getElem?_cons_succ, Option.getD_some] at hI); (try clear c0); (try clear c1); (try clear c2); (try clear c3); (try clear c4); (try clear c5); (try clear c6); (try clear c7); (try clear c8); (try clear c9); (try clear c10); (try clear c11); (try have c0 := hI.cell (i := 0) rfl); (try have c1 := hI.cell (i := 1) rfl); (try have c2 := hI.cell (i := 2) rfl); (try have c3 := hI.cell (i := 3) rfl); (try have c4 := hI.cell (i := 4) rfl); (try have c5 := hI.cell (i := 5) rfl); (try have c6 := hI.cell (i := 6) rfl); (try have c7 := hI.cell (i := 7) rfl); (try have c8 := hI.cell (i := 8) rfl); (try have c9 := hI.cell (i := 9) rfl); (try have c10 := hI.cell (i := 10) rfl); (try have c11 := hI.cell (i := 11) rfl); skip) | (go_at_call 41; (with_reducible refine (r_chr _ _).mono ?_); intro e w' hr; obtain ⟨rfl, hb⟩ := hr; have hI' := hI.on hb; (try replace HM1 := Lib.hid (HM1.out.grow hb)); (try replace HM2 := Lib.hid (HM2.out.grow hb)); (try replace HM3 := Lib.hid (HM3.out.grow hb)); (try replace HM4 := Lib.hid (HM4.out.grow hb)); (try clear hb); clear hI; have hI := hI'; clear hI'; (try simp only [List.cons_append, List.nil_append, List.set_cons_zero, List.set_cons_succ, List.setIfInBounds_toArray, Act.put, Act.eval, Array.getD_eq_getD_getElem?, List.getElem?_toArray, List.getElem?_cons_zero, List.getElem?_cons_succ, Option.getD_some] at hI); (try clear c0); (try clear c1); (try clear c2); (try clear c3); (try clear c4); (try clear c5); (try clear c6); (try clear c7); (try clear c8); (try clear c9); (try clear c10); (try clear c11); (try have c0 := hI.cell (i := 0) rfl); (try have c1 := hI.cell (i := 1) rfl); (try have c2 := hI.cell (i := 2) rfl); (try have c3 := hI.cell (i := 3) rfl); (try have c4 := hI.cell (i := 4) rfl); (try have c5 := hI.cell (i := 5) rfl); (try have c6 := hI.cell (i := 6) rfl); (try have c7 := hI.cell (i := 7) rfl); (try have c8 := hI.cell (i := 8) rfl); (try have c9 := hI.cell (i := 9) rfl); (try have c10 := hI.cell (i := 10) rfl); (try have c11 := hI.cell (i := 11) rfl); skip) | fail)
    go_returns
    exact ⟨rfl, hI.below⟩
end Go.Proofs.Ythdlfepakkihnaa
