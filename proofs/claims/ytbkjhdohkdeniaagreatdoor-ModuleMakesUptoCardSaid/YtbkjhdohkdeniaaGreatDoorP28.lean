/- What the parts say: The reference's table of instructions, split. Conditions: the library's variables hold what they were laid with. -/
import Derived.Test.YtbkjhdohkdeniaaGreatDoorP21
import Derived.Test.YtbkjhdohkdeniaaGreatDoorP15
set_option linter.unusedVariables false
set_option linter.unusedSimpArgs false
namespace Go.Proofs.YtbkjhdohkdeniaaGreatDoor
open Go.RowKit
set_option maxRecDepth 100000
theorem split_table : Lib.splitB ⟨#[59]⟩ 0 (Lib.countB tableB ⟨#[59]⟩) tableB = tableL := by rw [splitB_one]; kernel_rfl
theorem split_parts : (tableL.map fun s => Lib.splitB ⟨#[32]⟩ 0 (Lib.countB s ⟨#[32]⟩) s) = partsL := by
  rw [List.map_congr_left fun s _ => splitB_one 32 s]; kernel_rfl
theorem table_small : ∀ s ∈ tableL, s.size < 4294967281 := by
  have h : (tableL.all fun s => decide (s.size < 100)) = true := by kernel_rfl
  intro s hs
  have := of_decide_eq_true (List.all_eq_true.1 h s hs)
  omega
theorem r_table {w0 w : World} {rs : List Res} (hI : Inv w0 rs w) (hE : Env w0) : Calls Tryz.prog 88 #[] w fun e w' => ∃ g, e = .returned (.slice (some ⟨g, 0, none⟩) 23 23) ∧ Inv w0 (rs ++ [.box g 9 (tableL.map Value.string).toArray]) w' := by
  have hI0 := Inv.start w
  have hE' := hE.inv hI
  go_enter Tryz.func88, Tryz.ntmps88
  go_wp2_with (first | (go_at_call 29; refine (c_Split tableB ⟨#[59]⟩ w hE' (by decide) (by decide) tableL split_table).mono ?_; rintro e w' ⟨g, rfl, rfl, rfl⟩) | fail)
  go_returns
  exact ⟨_, rfl, hI.alloc _ _⟩
theorem c_parts {w0 w : World} {rs : List Res} (hI : Inv w0 rs w) (hE : Env w0) (k : Nat) (s : ByteArray) (l : List ByteArray) (hs : tableL[k]? = some s) (hl : partsL[k]? = some l) : Calls Tryz.prog 29 #[.string s, .string ⟨#[32]⟩] w fun e w' => ∃ g, e = .returned (.slice (some ⟨g, 0, none⟩) l.length l.length) ∧ Inv w0 (rs ++ [.box g 9 (l.map Value.string).toArray]) w' := by
  have he : Lib.splitB ⟨#[32]⟩ 0 (Lib.countB s ⟨#[32]⟩) s = l := by
    have := split_parts
    rw [← this, List.getElem?_map, hs] at hl
    simpa using hl
  refine (c_Split s ⟨#[32]⟩ w (hE.inv hI) (table_small s (List.mem_of_getElem? hs)) (by decide) l he).mono ?_
  rintro e w' ⟨g, rfl, rfl, rfl⟩
  exact ⟨_, rfl, hI.alloc _ _⟩
end Go.Proofs.YtbkjhdohkdeniaaGreatDoor
