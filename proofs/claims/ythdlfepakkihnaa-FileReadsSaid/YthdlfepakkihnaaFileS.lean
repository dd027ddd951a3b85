/- The file's bytes: the sum, what is put to them. Conditions: none. -/
import Derived.Test.YthdlfepakkihnaaBytesW
namespace Go.Proofs.Ythdlfepakkihnaa
open Go.RowKit
set_option linter.unusedVariables false
set_option linter.unusedSimpArgs false
set_option maxRecDepth 100000
theorem enc_high2 (n : Int) : (high n 2).flatMap enc8 = [.int .u8 (n / 256 % 256), .int .u8 (n % 256)] := by
  show enc8 (u8 (n / 256)) ++ (enc8 (u8 n) ++ []) = _
  rw [enc8_mod, enc8_mod]; rfl
theorem enc_high4 (n : Int) : (high n 4).flatMap enc8 = [.int .u8 (n / 16777216 % 256), .int .u8 (n / 65536 % 256), .int .u8 (n / 256 % 256), .int .u8 (n % 256)] := by
  show enc8 (u8 (n / 256 / 256 / 256)) ++ (enc8 (u8 (n / 256 / 256)) ++ (enc8 (u8 (n / 256)) ++ (enc8 (u8 n) ++ []))) = _
  rw [enc8_mod, enc8_mod, enc8_mod, enc8_mod, show n / 256 / 256 / 256 = n / 16777216 by omega, show n / 256 / 256 = n / 65536 by omega]; rfl
theorem c_fsum (l : List UInt8) (hl : l.length ≤ 100000) (w : World) : Calls Try.prog 40 #[.string (str l)] w (fun e w' => ∃ v, e = .returned v ∧ Inv w [.row 5 1 v (high (sumB l) 2).length ((high (sumB l) 2).flatMap enc8)] w') := by
  have hs := str_size l
  go_enter Try.func40, Try.ntmps40
  go_wp2_with fail
  go_loop [3, 7] (fun v i => ∃ k : Nat, k ≤ l.length ∧ i = .int .i64 k ∧ v = .int .i64 (sumB (l.take k))) (fun _ i => l.length - (intOf i).toNat)
  case atStart => exact ⟨0, by omega, rfl, rfl⟩
  case round =>
    obtain ⟨k, hk, rfl, rfl⟩ := hrel
    rcases Nat.lt_or_ge k l.length with hlt | hge
    · obtain ⟨c, hc⟩ : ∃ c, l[k]? = some c := ⟨_, List.getElem?_eq_getElem hlt⟩
      have hsz : k < (str l).size := by rw [hs]; exact hlt
      have hat := str_get hc hsz
      obtain ⟨b1, b2⟩ := sumB_bd (l.take k)
      rw [List.length_take] at b2
      have hc8 := c.toNat_lt
      go_wp2_with fail
      go_round
      case rel => exact ⟨k + 1, by omega, by go_num, by rw [sumB_take hc]⟩
      case measure => simp [intOf]; omega
    · obtain rfl : k = l.length := by omega
      rw [List.take_length]
      have hI := Inv.start w
      obtain ⟨n, hn⟩ : ∃ n, sumB l = n := ⟨_, rfl⟩
      rw [hn]
      have HN := Lib.hid hn
      clear hn
      have H2 := Lib.hid (enc_high2 n)
      go_wp2_with (first | (refine listI rfl fun K hK => wpI_bytes 90 5 2 _ rfl hI Try.underlying90 (high n 2) (by kernel_rfl) rfl (by decide) (by decide) (by rw [H2.out]; kernel_rfl) fun v8 w' hI' => hK _ _ ?_; clear hK K; (try replace HM1 := Lib.hid (HM1.out.grow hb)); (try replace HM2 := Lib.hid (HM2.out.grow hb)); (try replace HM3 := Lib.hid (HM3.out.grow hb)); (try replace HM4 := Lib.hid (HM4.out.grow hb)); (try clear hb); clear hI; have hI := hI'; clear hI'; (try simp only [List.cons_append, List.nil_append, List.set_cons_zero, List.set_cons_succ, List.setIfInBounds_toArray, Act.put, Act.eval, Array.getD_eq_getD_getElem?, List.getElem?_toArray, List.getElem?_cons_zero, List.getElem?_cons_succ, Option.getD_some] at hI); (try clear c0); (try clear c1); (try clear c2); (try clear c3); (try clear c4); (try clear c5); (try clear c6); (try clear c7); (try clear c8); (try clear c9); (try clear c10); (try clear c11); (try have c0 := hI.cell (i := 0) rfl); (try have c1 := hI.cell (i := 1) rfl); (try have c2 := hI.cell (i := 2) rfl); (try have c3 := hI.cell (i := 3) rfl); (try have c4 := hI.cell (i := 4) rfl); (try have c5 := hI.cell (i := 5) rfl); (try have c6 := hI.cell (i := 6) rfl); (try have c7 := hI.cell (i := 7) rfl); (try have c8 := hI.cell (i := 8) rfl); (try have c9 := hI.cell (i := 9) rfl); (try have c10 := hI.cell (i := 10) rfl); (try have c11 := hI.cell (i := 11) rfl); skip) | fail)
      go_returns
      rw [HN.out]
      exact ⟨_, rfl, hI⟩
end Go.Proofs.Ythdlfepakkihnaa
