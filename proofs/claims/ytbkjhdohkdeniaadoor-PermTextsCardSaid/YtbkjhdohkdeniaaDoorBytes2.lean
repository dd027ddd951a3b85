/- The sum of bytes, one byte as a string. Conditions: none. -/
import Derived.Test.YtbkjhdohkdeniaaDoorBytes
namespace Go.Proofs.YtbkjhdohkdeniaaDoor
open Go.RowKit
set_option linter.unusedVariables false
set_option linter.unusedSimpArgs false
set_option maxRecDepth 100000
theorem str_at {l : List UInt8} {k : Nat} {c : UInt8} (h : l[k]? = some c) : (str l).data.toList[k]? = some c := by rw [str_list]; exact h
theorem str_get {l : List UInt8} {k : Nat} {c : UInt8} (h : l[k]? = some c) (hs : k < (str l).size) : (str l)[k] = c := by
  have e : (str l)[k] = l[k]'(getElem?_lt h) := rfl
  rw [e]; exact Option.some.inj ((List.getElem?_eq_getElem _).symm.trans h)
theorem el_8 : ElT Tryd.prog enc8 69 5 1 1 where
  under := Tryd.underlying69
  info := by
    obtain ⟨i0, hi, hz0, hz1, hz2⟩ := info_parts (show (Tryd.prog.info? 5).map (fun i => (i.zero, i.size, i.bytes)) = some (some (.int .u8 0), 1, 1) by kernel_rfl)
    exact ⟨i0, _, hi, hz0, hz1, hz2, rfl⟩
  pos := by decide
  len := len_8
  one := fun x u hu => by
    simp only [enc8, List.mem_cons, List.not_mem_nil, or_false] at hu
    rcases hu with rfl; rfl
section
variable {P : Program} {ops : Array Oper} {rest : List Oper} {o : Oper} {a : Act} {w : World} {K : Act → World → Prop} {Q : Exit → Act → World → Prop}
theorem run_str {B : Nat} {A : Option Addr} {xs : List UInt8} (hL : Lies enc8 1 w B A xs) (src dst e : TypeId) (c : Nat) (hs : P.underlying src = some (.slice e)) (he : P.underlying e = some (.int .u8)) (hd : P.underlying dst = some .string) : (convert src dst (.slice A xs.length c)).run P w = .ok (.string (str xs)) w := by
  cases xs with
  | nil =>
    cases A with
    | none => exact run_convert_bytes_nil w src e hs he _ _ dst hd
    | some p => exact run_convert_bytes_back w src dst e p c [] hs he hd (fun j hj => absurd hj (by simp))
  | cons x xs =>
    obtain ⟨b, off, rfl, hb, h⟩ := hL (by simp)
    exact run_convert_bytes_back w src dst e ⟨b, off, none⟩ c (x :: xs) hs he hd (fun j hj => by
      have := h j _ (List.getElem?_eq_getElem hj) 0 (by decide)
      have e : (⟨b, off, none⟩ : Addr).add j = ⟨b, off + j, none⟩ := by unfold Addr.add; split <;> simp_all
      rw [e]
      simpa [enc8] using this)
/-- a row of bytes turned into a string -/
theorem wpI_str (src dst : TypeId) (x : Operand) (ho : o.op = .convert src dst x) {B : Nat} {A : Option Addr} {xs : List UInt8} {n c : Nat} (hx : a.eval x = .slice A n c) (hL : Lies enc8 1 w B A xs) (hn : xs.length = n) {e : TypeId} (hs : P.underlying src = some (.slice e)) (he : P.underlying e = some (.int .u8)) (hd : P.underlying dst = some .string)
    (h : K (a.put o.dst (.string (str xs))) w) : o.wp P a w K Q := by
  subst hn
  unfold Oper.wp execOp
  simp only [ho, hx, Sem.run_bind, Sem.run_pure, Result.andThen_ok, run_str hL src dst e c hs he hd]
  exact h
end
theorem enc8_mod (n : Int) : enc8 (u8 n) = [.int .u8 (n % 256)] := by unfold enc8; rw [u8_int]
theorem one8 (n : Int) : ∀ j, j < 1 → #[Value.int .u8 (n % 256)][j]? = (enc8 (u8 n))[j]? := fun j hj => by
  obtain rfl : j = 0 := by omega
  rw [enc8_mod]; rfl
theorem r_chr (n : Int) (w : World) : Calls Tryd.prog 57 #[.int .i64 n] w (Ret (.string (str [u8 n])) w) := by
  have hI := Inv.start w
  go_enter Tryd.func57, Tryd.ntmps57
  have hL := Lies.single w #[.int .u8 (n % 256)] 5 (u8 n) (enc := enc8) (size := 1) (one8 n)
  go_wp2_with (first | (refine listI rfl fun K hK => wpI_str 69 9 _ rfl rfl hL rfl Tryd.underlying69 Tryd.underlying5 Tryd.underlying9 (hK _ _ ?_); clear hK K) | fail)
  go_returns
  exact ⟨rfl, by (repeat' (first | (with_reducible exact Below.refl _ _) | (with_reducible assumption) | (with_reducible refine Below.alloc ?_ ?_ _) | (with_reducible refine Below.drew ?_) | (with_reducible refine Below.setCell ?_ ?_ _) | (refine Below.trans ?_ (Below.mono (by with_reducible assumption) ?_)) | go_size))⟩
end Go.Proofs.YtbkjhdohkdeniaaDoor
