/- What a machine is of which Check says nothing. Conditions: none. -/
import Derived.Test.YthdlfepakkihnaaMBox
namespace Go.Proofs.Ythdlfepakkihnaa
open Go.RowKit
set_option linter.unusedVariables false
set_option linter.unusedSimpArgs false
set_option maxRecDepth 100000

theorem firstE_all {α : Type} {f : α → Int} {l : List α} (h : (firstE f l != 0) = false) : ∀ x ∈ l, f x = 0 := by
  induction l with
  | nil => intro x hx; cases hx
  | cons y l ih =>
    intro x hx
    rw [firstE] at h
    cases hy : (f y != 0)
    · rw [hy] at h
      simp only [Bool.false_eq_true, if_false] at h
      rcases List.mem_cons.1 hx with rfl | hx
      · simpa using hy
      · exact ih h x hx
    · rw [hy] at h
      simp only [if_true] at h
      rw [hy] at h; cases h
theorem firstE_of {α : Type} {f : α → Int} {l : List α} (h : ∀ x ∈ l, f x = 0) : (firstE f l != 0) = false := by
  induction l with
  | nil => rfl
  | cons y l ih =>
    rw [firstE, h y (by simp)]
    exact ih fun x hx => h x (by simp [hx])
theorem firstE_zero {α : Type} {f : α → Int} {l : List α} (h : ∀ x ∈ l, f x = 0) : firstE f l = 0 := by simpa using firstE_of h
theorem valE_is {v : Val} (h : valE v = 0) (hi : v.is = true) : keyOk v.key = true ∧ v.n = 0 := by
  unfold valE at h
  rw [if_pos hi] at h
  split at h
  · split at h
    · exact ⟨by assumption, by assumption⟩
    · cases h
  · cases h
theorem valE_not {v : Val} (h : valE v = 0) (hi : v.is = false) : (-2147483648 ≤ v.n ∧ v.n ≤ 2147483647) ∧ v.key = Key.zero := by
  unfold valE at h
  rw [if_neg (by simp [hi])] at h
  split at h
  · rename_i hn
    split at h
    · exact ⟨inR_iff.1 hn, by assumption⟩
    · cases h
  · cases h
theorem keyE_eq {k : Key} (h : keyE k = 0) : keyOk k = true := by
  cases hk : keyOk k
  · rw [keyE_no hk] at h; cases h
  · rfl
theorem seqE_zero {a b : Int} : (seqE a b != 0) = false ↔ (a != 0) = false ∧ (b != 0) = false := by
  cases h : (a != 0)
  · rw [seqE_ok h]; simp
  · rw [seqE_no h, h]; simp
/-- what holds of a machine that may be -/
structure MachOk (m : Mach) : Prop where
  regs : ∀ v ∈ m.regs, valE v = 0
  code : keyOk m.code = true
  len : m.mem.length ≤ 400
  mem : ∀ v ∈ m.mem, valE v = 0
  deep : m.stack.length ≤ 16
  stack : ∀ f ∈ m.stack, keyOk f.code = true ∧ valE f.data = 0
  outs : m.out.length ≤ 100
  out : ∀ n ∈ m.out, n = wr n
theorem machE_ok {m : Mach} (h : (machE m != 0) = false) : MachOk m := by
  unfold machE at h
  obtain ⟨h1, h⟩ := seqE_zero.1 h
  obtain ⟨h2, h⟩ := seqE_zero.1 h
  obtain ⟨h3, h⟩ := seqE_zero.1 h
  split at h
  · cases h
  rename_i hd
  obtain ⟨h4, h⟩ := seqE_zero.1 h
  split at h
  · cases h
  rename_i ho
  unfold memE at h3
  split at h3
  · cases h3
  rename_i hm
  refine ⟨firstE_all h1, keyE_eq (by simpa using h2), by omega, firstE_all h3, by omega, fun f hf => ?_, by omega, fun n hn => ?_⟩
  · have := firstE_all h4 f hf
    unfold frameE at this
    have h5 := seqE_zero.1 (by simpa using this)
    exact ⟨keyE_eq (by simpa using h5.1), by simpa using h5.2⟩
  · have := firstE_all h n hn
    unfold numE at this
    split at this
    · rename_i e; simpa using e
    · cases this
theorem MachOk.zero {m : Mach} (h : MachOk m) : (machE m != 0) = false := by
  unfold machE
  refine seqE_zero.2 ⟨firstE_of h.regs, seqE_zero.2 ⟨by rw [keyE_ok h.code]; rfl, seqE_zero.2 ⟨?_, ?_⟩⟩⟩
  · unfold memE
    rw [if_neg (by have := h.len; omega)]
    exact firstE_of h.mem
  · rw [if_neg (by have := h.deep; omega)]
    refine seqE_zero.2 ⟨firstE_of fun f hf => ?_, ?_⟩
    · unfold frameE
      rw [keyE_ok (h.stack f hf).1, seqE_ok rfl, (h.stack f hf).2]
    · rw [if_neg (by have := h.outs; omega)]
      refine firstE_of fun n hn => ?_
      unfold numE
      rw [if_pos (by have := h.out n hn; simpa using this)]
theorem machE_lens {m : Mach} (h : (machE m != 0) = false) : m.mem.length ≤ 400 ∧ m.stack.length ≤ 16 ∧ m.out.length ≤ 100 := by
  have := machE_ok h
  exact ⟨this.len, this.deep, this.outs⟩
end Go.Proofs.Ythdlfepakkihnaa
