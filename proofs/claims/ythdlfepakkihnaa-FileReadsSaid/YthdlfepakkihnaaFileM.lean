/- A module's bytes, as plain data. Conditions: none. -/
import Derived.Test.YthdlfepakkihnaaFileK
import Derived.Test.YthdlfepakkihnaaTwoL
namespace Go.Proofs.Ythdlfepakkihnaa
open Go.RowKit
set_option linter.unusedVariables false
set_option linter.unusedSimpArgs false
set_option maxRecDepth 100000
def numB (l : List Int) : List UInt8 := l.flatMap fun n => high (n + 2147483648) 4
def topB (m : Mod) : List UInt8 := [67, 77, 49] ++ [u8 m.code.length, u8 m.data.length, u8 m.exports.length, u8 m.imports.length]
def expB (l : List Label) : List UInt8 := l.flatMap fun x => itemB x.name x.pos
def impB (l : List Import) : List UInt8 := l.flatMap fun x => itemB x.name x.slot
def bodyB (m : Mod) : List UInt8 := topB m ++ numB (m.code ++ m.data) ++ expB m.exports ++ impB m.imports
def fileL (m : Mod) : List UInt8 := bodyB m ++ high (sumB (bodyB m)) 2
def fileS (m : Mod) : ByteArray := if modE m = 0 then str (fileL m) else ByteArray.empty
theorem high2_mod (n : Int) : high (n % 65536) 2 = high n 2 := by
  show [u8 (n % 65536 / 256), u8 (n % 65536)] = [u8 (n / 256), u8 n]
  unfold u8
  rw [show n % 65536 / 256 % 256 = n / 256 % 256 by omega, show n % 65536 % 256 = n % 256 by omega]
theorem numB_len (l : List Int) : (numB l).length = 4 * l.length := by
  unfold numB
  induction l with
  | nil => rfl
  | cons n l ih => rw [List.flatMap_cons, List.length_append, ih, high_len, List.length_cons]; omega
theorem numB_app (k l : List Int) : numB (k ++ l) = numB k ++ numB l := List.flatMap_append
theorem numB_snoc {l : List Int} {j : Nat} {n : Int} (h : l[j]? = some n) : numB (l.take (j + 1)) = numB (l.take j) ++ high (n + 2147483648) 4 := by
  rw [List.take_add_one, h]; simp [numB]
theorem expB_snoc {l : List Label} {j : Nat} {x : Label} (h : l[j]? = some x) : expB (l.take (j + 1)) = expB (l.take j) ++ itemB x.name x.pos := by
  rw [List.take_add_one, h]; simp [expB]
theorem impB_snoc {l : List Import} {j : Nat} {x : Import} (h : l[j]? = some x) : impB (l.take (j + 1)) = impB (l.take j) ++ itemB x.name x.slot := by
  rw [List.take_add_one, h]; simp [impB]
theorem expB_len {l : List Label} (h : ∀ x ∈ l, x.name.size ≤ 12) : (expB l).length ≤ 14 * l.length := by
  unfold expB
  induction l with
  | nil => exact Nat.zero_le _
  | cons x l ih =>
    have h1 := ih fun y hy => h y (List.mem_cons_of_mem _ hy)
    have h2 := h x List.mem_cons_self
    rw [List.flatMap_cons, List.length_append, itemB_len, List.length_cons]; omega
theorem impB_len {l : List Import} (h : ∀ x ∈ l, x.name.size ≤ 12) : (impB l).length ≤ 14 * l.length := by
  unfold impB
  induction l with
  | nil => exact Nat.zero_le _
  | cons x l ih =>
    have h1 := ih fun y hy => h y (List.mem_cons_of_mem _ hy)
    have h2 := h x List.mem_cons_self
    rw [List.flatMap_cons, List.length_append, itemB_len, List.length_cons]; omega
theorem nameB_size {s : ByteArray} (h : nameB s.data.toList = true) : s.size ≤ 12 := by
  unfold nameB at h
  simp only [Bool.and_eq_true, decide_eq_true_eq] at h
  exact h.1.1.2
theorem firstI_all {α : Type} {f : Nat → α → Int} {p : α → Prop} (hp : ∀ k x, f k x = 0 → p x) : ∀ (l : List α) (k : Nat), firstI f l k = 0 → ∀ x ∈ l, p x
  | [], _, _, x, hx => by cases hx
  | y :: l, k, hf, x, hx => by
    rw [firstI] at hf
    split at hf
    · rename_i h3; rw [hf] at h3; cases h3
    · rename_i h3
      have h4 : f k y = 0 := by simpa using h3
      rcases List.mem_cons.1 hx with rfl | hx
      · exact hp k x h4
      · exact firstI_all hp l (k + 1) hf x hx
theorem modE_parts {m : Mod} (h : modE m = 0) : largeB m = false ∧ (numsB m.code && numsB m.data) = true ∧ firstI (expE m) m.exports 0 = 0 ∧ firstI (impE m) m.imports 0 = 0 := by
  unfold modE at h
  split at h
  · cases h
  · rename_i hl
    split at h
    · rename_i hn
      obtain ⟨h1, h2⟩ := seqE_zero.1 (show (seqE (fromI (expE m) m.exports 0) (fromI (impE m) m.imports 0) != 0) = false by rw [h]; rfl)
      exact ⟨by simpa using hl, hn, by simpa [fromI] using h1, by simpa [fromI] using h2⟩
    · cases h
theorem modE_expN {m : Mod} (h : modE m = 0) {x : Label} (hx : x ∈ m.exports) : x.name.size ≤ 12 :=
  firstI_all (p := fun x : Label => x.name.size ≤ 12) (fun k x hf => by
    unfold expE at hf
    split at hf
    · rename_i hn; exact nameB_size hn
    · cases hf) _ _ (modE_parts h).2.2.1 x hx
theorem modE_impN {m : Mod} (h : modE m = 0) {x : Import} (hx : x ∈ m.imports) : x.name.size ≤ 12 :=
  firstI_all (p := fun x : Import => x.name.size ≤ 12) (fun k x hf => by
    unfold impE at hf
    split at hf
    · rename_i hn; exact nameB_size hn
    · cases hf) _ _ (modE_parts h).2.2.2 x hx
theorem modE_nums {m : Mod} (h : modE m = 0) {n : Int} (hn : n ∈ m.code ++ m.data) : -2147483648 ≤ n ∧ n ≤ 2147483647 := by
  have h1 := (modE_parts h).2.1
  unfold numsB at h1
  rw [← List.all_append, List.all_eq_true] at h1
  have h2 : n = wr n := by simpa using h1 n hn
  rw [h2]
  exact ⟨wr_lo n, wr_hi n⟩
theorem bodyB_len {m : Mod} (h : modE m = 0) : (bodyB m).length ≤ 1300 := by
  obtain ⟨h1, h2, h3, h4⟩ := modE_sizes (m := m) (by rw [h]; rfl)
  have h5 := expB_len fun x hx => modE_expN h (x := x) hx
  have h6 := impB_len fun x hx => modE_impN h (x := x) hx
  have h7 : (topB m).length = 7 := rfl
  unfold bodyB
  rw [List.length_append, List.length_append, List.length_append, numB_len, List.length_append]
  omega
end Go.Proofs.Ythdlfepakkihnaa
