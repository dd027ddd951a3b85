/- What the parts say: The reference's step, up to its switch. Conditions: the machine is one that may be; Go's tables hold what they were laid with. -/
import Derived.Test.YthmpnnfejghhfaaGreatDoorP16
import Derived.Test.YthmpnnfejghhfaaGreatDoorP17
import Derived.Test.YthmpnnfejghhfaaGreatDoorP22
import Derived.Test.YthmpnnfejghhfaaGreatDoorP21
set_option linter.unusedVariables false
set_option linter.unusedSimpArgs false
namespace Go.Proofs.YthmpnnfejghhfaaGreatDoor
theorem az59 {P : Prop} (h : P := by
  have hbx := hI.box (i := 1) rfl; (refine am126 ?_)
  exact ⟨rfl, hI.below⟩) : P := h
open Go.RowKit
set_option maxRecDepth 100000
theorem mem_cells {A : Option Addr} {m : Mach} {w : World} (hL : Lies encV 7 w w.heap.size A m.mem) {k : Nat} {v : Val} (hv : m.mem[k]? = some v) : ∃ be oe, A = some ⟨be, oe, none⟩ ∧ ∀ w', Below w.heap.size w w' →
    w'.cell? ⟨be, oe + k * 7, none⟩ = some (.bool v.is) ∧ w'.cell? ⟨be, oe + k * 7 + 1, none⟩ = some (.int .i64 v.n) := by
  obtain ⟨b, o, x, hA, hb, hx, hq⟩ := hL.at_ (List.getElem?_eq_some_iff.1 hv).1
  rw [hv] at hx
  obtain rfl := Option.some.inj hx
  refine ⟨b, o, hA, fun w' hw => ⟨?_, ?_⟩⟩
  · rw [hw.cell (p := ⟨b, _, none⟩) hb]; exact hq 0 (by decide)
  · rw [hw.cell (p := ⟨b, _, none⟩) hb]; exact hq 1 (by decide)
set_option maxHeartbeats 8000000 in
theorem r_step_at (mc : Array Value) (m : Mach) (w : World) (hm : MachV w w.heap.size mc m) (hOK : MachOk m) (he : ¬ (place m.mem.length m.code 0 4).2 = 0) :
    Calls Tryz.prog 31 #[.agg mc] w (Ret (.tuple #[.agg zeroMC, .int .i64 (place m.mem.length m.code 0 4).2]) w) := by
  obtain ⟨A, S, O, a, s, o, p56, p57, p58, p59, p60, p61, p62, p63, -, -, -, -, -, -, hLm, hLs, hLo, hreg⟩ := hm.cells; have hpl := r_place A m.mem.length a m.code (by have := keyOk_iff.1 hOK.code; constructor <;> unfold i64 <;> omega) 0 2 (by decide) (by have := hOK.len; unfold maxLen; omega); simp only [show (2 : Int) ^ 2 = 4 from rfl] at hpl
  generalize place m.mem.length m.code 0 4 = r at *
  obtain ⟨ra, re⟩ := r
  dsimp only at hpl he ⊢
  have he' : (re != 0) = true := (by simpa using he); have HPL := Lib.hid hpl; clear hpl hm hLm hLs hLo hreg hOK
  go_enter Tryz.func31, Tryz.ntmps31
  have hI := Inv.start w; have cF := hI.facts
  go_wp2_with (first
    | ((with_reducible refine at_box ?_); first | (refine listI rfl fun K hK => wpI_box _ _ rfl hI rfl fun gx w' hI' hb => hK _ _ ?_; clear hK K; (try clear hb); refine am92 ?_; clear hI hI'; (try clear cF); intro hI cF) | (refine listI rfl fun K hK => wpI_box1 _ _ rfl hI rfl rfl fun gx w' hI' hb => hK _ _ ?_; clear hK K; (try clear hb); refine am92 ?_; clear hI hI'; (try clear cF); intro hI cF)) | ((with_reducible refine at_alloc ?_); first | (refine listI rfl fun K hK => wpI_alloc 31 rfl hI Tryz.zeroValue31 (cs := zeroMC) (by first | rfl | kernel_rfl) fun gx w' hI' hb => hK _ _ ?_; clear hK K; (try clear hb); refine am92 ?_; clear hI hI'; (try clear cF); intro hI cF))
    | (go_at_call 57; (with_reducible refine (HPL.out _).mono ?_); refine am101 ?_; clear hI; (try clear cF); intro w' hI cF)
    | (go_at_call 56; (with_reducible refine (r_none re _).mono ?_); refine am101 ?_; clear hI; (try clear cF); intro w' hI cF)
    | ((with_reducible refine at_store ?_); first | (refine listI rfl fun K hK => wpI_storeW _ _ _ rfl hI rfl 1 rfl rfl rfl (by kernel_rfl) (by kernel_rfl) fun w' hI' => hK _ _ ?_; clear hK K; (try clear hb); refine am92 ?_; clear hI hI'; (try clear cF); intro hI cF))
    | fail)
  exact az59
set_option maxHeartbeats 8000000 in
theorem r_step_form (mc : Array Value) (m : Mach) (w : World) (hm : MachV w w.heap.size mc m) (hOK : MachOk m) (hE : Env w) (k : Nat) (v : Val) (hp : place m.mem.length m.code 0 4 = ((k : Int), 0)) (hv : m.mem[k]? = some v) (hn : i64 v.n) (hbad : ¬ (readF v.n).2 = 0 ∨ v.is = true) :
    Calls Tryz.prog 31 #[.agg mc] w (Ret (.tuple #[.agg zeroMC, .int .i64 5]) w) := by
  obtain ⟨A, S, O, a, s, o, p56, p57, p58, p59, p60, p61, p62, p63, hma, -, -, -, -, -, hLm, hLs, hLo, hreg⟩ := hm.cells
  obtain ⟨be, oe, rfl, hq⟩ := mem_cells hLm hv
  have hkl : k < m.mem.length := (List.getElem?_eq_some_iff.1 hv).1; have hpl := r_place (some ⟨be, oe, none⟩) m.mem.length a m.code (by have := keyOk_iff.1 hOK.code; constructor <;> unfold i64 <;> omega) 0 2 (by decide) (by have := hOK.len; unfold maxLen; omega); simp only [show (2 : Int) ^ 2 = 4 from rfl] at hpl
  rw [hp] at hpl
  dsimp only at hpl; have hR := fun w h => r_InstRead v.n w h hn; have HPL := Lib.hid hpl; have HR := Lib.hid hR; have HQ := Lib.hid hq; have HE := Lib.hid hE; have hk1 : (k : Int) < m.mem.length := (by omega); have hk2 : (k : Int) < a := (by omega); clear hpl hm hLm hLs hLo hreg hOK hR hq hE hp
  by_cases he : (readF v.n).2 = 0
  · have hvi : v.is = true := by
      rcases hbad with h | h
      · exact absurd he h
      · exact h
    generalize readF v.n = r at *
    obtain ⟨ri, re⟩ := r; dsimp only at he HR
    subst he
    rw [hvi] at HQ
    clear hbad
    go_enter Tryz.func31, Tryz.ntmps31
    have hI := Inv.start w; have cF := hI.facts
    go_wp2_with (first
      | ((with_reducible refine at_box ?_); first | (refine listI rfl fun K hK => wpI_box _ _ rfl hI rfl fun gx w' hI' hb => hK _ _ ?_; clear hK K; (try clear hb); refine am92 ?_; clear hI hI'; (try clear cF); intro hI cF) | (refine listI rfl fun K hK => wpI_box1 _ _ rfl hI rfl rfl fun gx w' hI' hb => hK _ _ ?_; clear hK K; (try clear hb); refine am92 ?_; clear hI hI'; (try clear cF); intro hI cF)) | ((with_reducible refine at_alloc ?_); first | (refine listI rfl fun K hK => wpI_alloc 31 rfl hI Tryz.zeroValue31 (cs := zeroMC) (by first | rfl | kernel_rfl) fun gx w' hI' hb => hK _ _ ?_; clear hK K; (try clear hb); refine am92 ?_; clear hI hI'; (try clear cF); intro hI cF))
      | ((go_at_call 57; (with_reducible refine (HPL.out _).mono ?_); refine am101 ?_; clear hI; (try clear cF); intro w' hI cF); obtain ⟨e0, e1⟩ := HQ.out _ hI.below)
      | (go_at_call 33; (with_reducible refine (HR.out _ (HE.out.inv hI)).mono ?_); refine am101 ?_; clear hI; (try clear cF); intro w' hI cF)
      | ((with_reducible refine at_alloc ?_); first | (refine listI rfl fun K hK => wpI_alloc 75 rfl hI Tryz.zeroValue75 (cs := #[.int .i64 instZ.op, .int .i64 instZ.a, .int .i64 instZ.b, .int .i64 instZ.c]) (by first | rfl | kernel_rfl) fun gx w' hI' hb => hK _ _ ?_; clear hK K; (try clear hb); refine am92 ?_; clear hI hI'; (try clear cF); intro hI cF))
      | (((with_reducible refine at_store ?_); first | (refine listI rfl fun K hK => wpI_storeW _ _ _ rfl hI rfl 2 rfl rfl rfl (by kernel_rfl) (by simp [Value.oneCell']) fun w' hI' => hK _ _ ?_; clear hK K; (try clear hb); refine am92 ?_; clear hI hI'; (try clear cF); intro hI cF)); obtain ⟨e0, e1⟩ := HQ.out _ hI.below)
      | (go_at_call 56; (with_reducible refine (r_none 5 _).mono ?_); refine am101 ?_; clear hI; (try clear cF); intro w' hI cF)
      | ((with_reducible refine at_store ?_); first | (refine listI rfl fun K hK => wpI_storeW _ _ _ rfl hI rfl 1 rfl rfl rfl (by kernel_rfl) (by kernel_rfl) fun w' hI' => hK _ _ ?_; clear hK K; (try clear hb); refine am92 ?_; clear hI hI'; (try clear cF); intro hI cF))
      | fail)
    exact az59
  · have he' : ((readF v.n).2 != 0) = true := (by simpa using he)
    generalize readF v.n = r at *
    obtain ⟨ri, re⟩ := r; dsimp only at he he' HR; clear hbad
    go_enter Tryz.func31, Tryz.ntmps31
    have hI := Inv.start w; have cF := hI.facts
    go_wp2_with (first
      | ((with_reducible refine at_box ?_); first | (refine listI rfl fun K hK => wpI_box _ _ rfl hI rfl fun gx w' hI' hb => hK _ _ ?_; clear hK K; (try clear hb); refine am92 ?_; clear hI hI'; (try clear cF); intro hI cF) | (refine listI rfl fun K hK => wpI_box1 _ _ rfl hI rfl rfl fun gx w' hI' hb => hK _ _ ?_; clear hK K; (try clear hb); refine am92 ?_; clear hI hI'; (try clear cF); intro hI cF)) | ((with_reducible refine at_alloc ?_); first | (refine listI rfl fun K hK => wpI_alloc 31 rfl hI Tryz.zeroValue31 (cs := zeroMC) (by first | rfl | kernel_rfl) fun gx w' hI' hb => hK _ _ ?_; clear hK K; (try clear hb); refine am92 ?_; clear hI hI'; (try clear cF); intro hI cF))
      | ((go_at_call 57; (with_reducible refine (HPL.out _).mono ?_); refine am101 ?_; clear hI; (try clear cF); intro w' hI cF); obtain ⟨e0, e1⟩ := HQ.out _ hI.below)
      | (go_at_call 33; (with_reducible refine (HR.out _ (HE.out.inv hI)).mono ?_); refine am101 ?_; clear hI; (try clear cF); intro w' hI cF)
      | ((with_reducible refine at_alloc ?_); first | (refine listI rfl fun K hK => wpI_alloc 75 rfl hI Tryz.zeroValue75 (cs := #[.int .i64 instZ.op, .int .i64 instZ.a, .int .i64 instZ.b, .int .i64 instZ.c]) (by first | rfl | kernel_rfl) fun gx w' hI' hb => hK _ _ ?_; clear hK K; (try clear hb); refine am92 ?_; clear hI hI'; (try clear cF); intro hI cF))
      | ((with_reducible refine at_store ?_); first | (refine listI rfl fun K hK => wpI_storeW _ _ _ rfl hI rfl 2 rfl rfl rfl (by kernel_rfl) (by simp [Value.oneCell']) fun w' hI' => hK _ _ ?_; clear hK K; (try clear hb); refine am92 ?_; clear hI hI'; (try clear cF); intro hI cF))
      | (go_at_call 56; (with_reducible refine (r_none 5 _).mono ?_); refine am101 ?_; clear hI; (try clear cF); intro w' hI cF)
      | ((with_reducible refine at_store ?_); first | (refine listI rfl fun K hK => wpI_storeW _ _ _ rfl hI rfl 1 rfl rfl rfl (by kernel_rfl) (by kernel_rfl) fun w' hI' => hK _ _ ?_; clear hK K; (try clear hb); refine am92 ?_; clear hI hI'; (try clear cF); intro hI cF))
      | fail)
    exact az59
end Go.Proofs.YthmpnnfejghhfaaGreatDoor
