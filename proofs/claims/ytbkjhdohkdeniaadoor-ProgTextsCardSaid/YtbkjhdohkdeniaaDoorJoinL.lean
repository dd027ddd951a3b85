/- strings.Join over a slice of strings of the call's own. Conditions: none. -/
import Derived.Test.YtbkjhdohkdeniaaDoorTextE
namespace Go.Proofs.YtbkjhdohkdeniaaDoor
open Go.RowKit
set_option linter.unusedVariables false
set_option linter.unusedSimpArgs false
set_option maxRecDepth 100000
def encT (l : List UInt8) : List Value := [.string (str l)]
theorem len_T : ∀ x, (encT x).length = 1 := fun _ => rfl
theorem InvT.rowCapT {T : Nat → Prop} {w0 w : World} {rs : List Res} (h : InvT T w0 rs w) {i n k cap size : Nat} {A : Option Addr} {e : TypeId} {us : List Value} (hi : rs[i]? = some (.row e size (.slice A k cap) n us)) : n ≤ cap ∧ cap ≤ maxLen := by
  rcases (h.ok i _ hi).2 with ⟨hv, h0⟩ | ⟨g, c, cur, hv, h1, h2, h3, h4, h5, h6⟩
  · cases hv; subst h0; exact ⟨Nat.le_refl _, by unfold maxLen; omega⟩
  · cases hv; exact ⟨h3, h4⟩
theorem el_T : ElT Tryd.prog encT 49 9 1 16 where
  under := Tryd.underlying49
  info := by
    obtain ⟨i0, hi, hz0, hz1, hz2⟩ := info_parts (show (Tryd.prog.info? 9).map (fun i => (i.zero, i.size, i.bytes)) = some (some (.string ByteArray.empty), 1, 16) by kernel_rfl)
    exact ⟨i0, _, hi, hz0, hz1, hz2, rfl⟩
  pos := by decide
  len := len_T
  one := fun x u hu => by
    simp only [encT, List.mem_cons, List.not_mem_nil, or_false] at hu
    subst hu; rfl
theorem c_JoinLies (A : Option Addr) (c : Nat) (ls : List (List UInt8)) (w : World) (hL : Lies encT 1 w w.heap.size A ls) (hcap : ls.length ≤ c) (b : UInt8) (hl : (Lib.join ls [b]).length ≤ 1000000) (hN : ls.length ≤ 100000) :
    Calls Tryd.prog 29 #[.slice A ls.length c, .string ⟨#[b]⟩] w (Ret (.string (str (Lib.join ls [b]))) w) := by
  rcases ls with _ | ⟨x, r⟩
  · refine (Any.strings_Join_none Tryd.lays156 Tryd.Builder_Extra_156 A c ⟨#[b]⟩ w).mono ?_
    rintro e w' ⟨rfl, rfl⟩
    exact ⟨rfl, Below.refl _ _⟩
  · obtain ⟨bk, o, rfl, hb, hc⟩ := hL (by simp)
    have e : ((x :: r).map str).map (·.data.toList) = x :: r := by
      rw [List.map_map]
      exact (List.map_congr_left fun x _ => str_list x).trans (List.map_id _)
    have h := Tryd.strings_Join bk o c ((x :: r).map str) ⟨#[b]⟩ w (fun j y hy => by
      rw [List.getElem?_map] at hy
      cases hj : (x :: r)[j]? with
      | none => rw [hj] at hy; cases hy
      | some z =>
        rw [hj] at hy
        obtain rfl : str z = y := Option.some.inj hy
        have := hc j z hj 0 (by decide)
        rw [Nat.mul_one] at this
        exact this) hb (by simp only [List.length_map]; omega) (by simp only [List.length_map]; exact hcap) (by show (Lib.join _ [b]).length ≤ _; rw [e]; omega)
    rw [List.length_map] at h
    refine h.mono ?_
    rintro e' w' ⟨rfl, hb'⟩
    refine ⟨?_, hb'⟩
    show Ending.returned (.string (str (Lib.join _ [b]))) = _
    rw [e]
end Go.Proofs.YtbkjhdohkdeniaaDoor
