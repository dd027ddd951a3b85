/- What the parts say: Bytes: numbers told as bytes, rows of bytes, strings of them. Conditions: none. -/
import Derived.Test.YtbkjhdohkdeniaaGreatDoorP13
import Derived.Laws.BytesArg
import Derived.Lib.Strings
set_option linter.unusedVariables false
set_option linter.unusedSimpArgs false
namespace Go.Proofs.YtbkjhdohkdeniaaGreatDoor
open Go.RowKit
set_option maxRecDepth 100000
def u8 (n : Int) : UInt8 := UInt8.ofNat (n % 256).toNat
theorem u8_int (n : Int) : ((u8 n).toNat : Int) = n % 256 := by
  unfold u8
  rw [UInt8.toNat_ofNat']
  omega
def enc8 (b : UInt8) : List Value := [.int .u8 b.toNat]
def str (l : List UInt8) : ByteArray := ⟨l.toArray⟩
theorem str_list (l : List UInt8) : (str l).data.toList = l := by simp [str]
theorem str_of (s : ByteArray) : str s.data.toList = s := by obtain ⟨⟨l⟩⟩ := s; rfl
theorem str_size (l : List UInt8) : (str l).size = l.length := by rw [Lib.size_eq, str_list]
theorem str_app (k l : List UInt8) : str k ++ str l = str (k ++ l) := by
  apply WideShapes.bytes_inj
  simp [str]
def high (n : Int) : Nat → List UInt8
  | 0 => []
  | k + 1 => high (n / 256) k ++ [u8 n]
end Go.Proofs.YtbkjhdohkdeniaaGreatDoor
namespace Go.Proofs.YtbkjhdohkdeniaaGreatDoor
open Go.RowKit
set_option maxRecDepth 100000
section
variable {P : Program} {ops : Array Oper} {rest : List Oper} {o : Oper} {a : Act} {w : World} {K : Act → World → Prop} {Q : Exit → Act → World → Prop}
theorem run_str {B : Nat} {A : Option Addr} {xs : List UInt8} (hL : Lies enc8 1 w B A xs) (src dst e : TypeId) (c : Nat) (hs : P.underlying src = some (.slice e)) (he : P.underlying e = some (.int .u8)) (hd : P.underlying dst = some .string) : (convert src dst (.slice A xs.length c)).run P w = .ok (.string (str xs)) w := by
  cases xs with
  | nil =>
    cases A with
    | none => exact run_convert_bytes_nil w src e hs he _ _ dst hd
    | some p => exact run_convert_bytes_back w src dst e p c [] hs he hd (fun j hj => absurd hj (by simp))
  | cons x xs =>
    obtain ⟨b, off, rfl, hb, h⟩ := hL (by simp)
    exact run_convert_bytes_back w src dst e ⟨b, off, none⟩ c (x :: xs) hs he hd (fun j hj => by
      have := h j _ (List.getElem?_eq_getElem hj) 0 (by decide)
      have e : (⟨b, off, none⟩ : Addr).add j = ⟨b, off + j, none⟩ := by unfold Addr.add; split <;> simp_all
      rw [e]
      simpa [enc8] using this)
theorem wpI_str (src dst : TypeId) (x : Operand) (ho : o.op = .convert src dst x) {B : Nat} {A : Option Addr} {xs : List UInt8} {n c : Nat} (hx : a.eval x = .slice A n c) (hL : Lies enc8 1 w B A xs) (hn : xs.length = n) {e : TypeId} (hs : P.underlying src = some (.slice e)) (he : P.underlying e = some (.int .u8)) (hd : P.underlying dst = some .string)
    (h : K (a.put o.dst (.string (str xs))) w) : o.wp P a w K Q := by
  subst hn
  unfold Oper.wp execOp
  simp only [ho, hx, Sem.run_bind, Sem.run_pure, Result.andThen_ok, run_str hL src dst e c hs he hd]
  exact h
end
theorem enc8_mod (n : Int) : enc8 (u8 n) = [.int .u8 (n % 256)] := by unfold enc8; rw [u8_int]
theorem one8 (n : Int) : ∀ j, j < 1 → #[Value.int .u8 (n % 256)][j]? = (enc8 (u8 n))[j]? := fun j hj => by
  obtain rfl : j = 0 := by omega
  rw [enc8_mod]; rfl
theorem r_chr (n : Int) (w : World) : Calls Tryz.prog 116 #[.int .i64 n] w (Ret (.string (str [u8 n])) w) := by
  have hI := Inv.start w
  go_enter Tryz.func116, Tryz.ntmps116
  have hL := Lies.single w #[.int .u8 (n % 256)] 5 (u8 n) (enc := enc8) (size := 1) (one8 n)
  go_wp2_with (first | (refine listI rfl fun K hK => wpI_str 233 9 _ rfl rfl hL rfl Tryz.underlying233 Tryz.underlying5 Tryz.underlying9 (hK _ _ ?_); clear hK K) | fail)
  go_returns
  exact ⟨rfl, by (repeat' (first | (with_reducible exact Below.refl _ _) | (with_reducible assumption) | (with_reducible refine Below.alloc ?_ ?_ _) | (with_reducible refine Below.drew ?_) | (with_reducible refine Below.setCell ?_ ?_ _) | (refine Below.trans ?_ (Below.mono (by with_reducible assumption) ?_)) | go_size))⟩
end Go.Proofs.YtbkjhdohkdeniaaGreatDoor
