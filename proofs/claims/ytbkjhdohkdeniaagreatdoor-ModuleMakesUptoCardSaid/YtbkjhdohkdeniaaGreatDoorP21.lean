/- What the parts say: The contracts of package inst's Check, Pack, Read: each returns a plain function of its values. Conditions: Go's table of white space holds what it was laid with. -/
import Derived.Test.YtbkjhdohkdeniaaGreatDoorP13
import Derived.Test.YtbkjhdohkdeniaaGreatDoorP02
import Derived.Test.YtbkjhdohkdeniaaGreatDoorP19
set_option linter.unusedVariables false
set_option linter.unusedSimpArgs false
namespace Go.Proofs.YtbkjhdohkdeniaaGreatDoor
open Go.RowKit
set_option maxRecDepth 100000
structure Env (w : World) : Prop where
  tab : ∀ c : Nat, c < 256 → w.cell? ⟨1, c, none⟩ = some (.int .u8 (if Lib.isSp (UInt8.ofNat c) then 1 else 0))
  mx : ∃ m, w.cell? ⟨0, 0, none⟩ = some (.int .i64 m)
theorem Env.below {w w' : World} (h : Env w) (hb : Below w.heap.size w w') : Env w' := by
  refine ⟨fun c hc => ?_, ?_⟩
  · rw [hb.cell (p := ⟨_, c, none⟩) (cell_lt (h.tab c hc)).1]; exact h.tab c hc
  · obtain ⟨m, hm⟩ := h.mx
    exact ⟨m, by rw [hb.cell (p := ⟨_, 0, none⟩) (cell_lt hm).1]; exact hm⟩
theorem Env.inv {w w' : World} {rs : List Res} (h : Env w) (hI : Inv w rs w') : Env w' := h.below hI.below
def fieldsS (s : ByteArray) : List ByteArray := (Lib.fields s.data.toList).map fun l => ⟨l.toArray⟩
theorem c_Fields (s : ByteArray) (w : World) (hE : Env w) (hs : s.size < 4294967281) (ha : ∀ (j : Nat) b, s.data.toList[j]? = some b → b.toNat < 128) (l : List ByteArray) (hl : fieldsS s = l) :
    Calls Tryz.prog 201 #[.string s] w fun e w' => ∃ g, e = .returned (.slice (some ⟨g, 0, none⟩) l.length l.length) ∧ g = w.heap.size ∧ w' = w.alloc (.cells (l.map Value.string).toArray 9) := by
  subst hl
  refine (Any.strings_Fields_core Tryz.lays157 (by kernel_rfl) s w hs ha hE.tab).mono ?_
  rintro e w' ⟨rfl, rfl⟩
  exact ⟨_, by rw [fieldsS, List.length_map], rfl, by rw [fieldsS, List.map_map]; rfl⟩
theorem c_Split (s sep : ByteArray) (w : World) (hE : Env w) (hs : s.size < 4294967281) (h1 : 1 ≤ sep.size) (l : List ByteArray) (hl : Lib.splitB sep 0 (Lib.countB s sep) s = l) :
    Calls Tryz.prog 29 #[.string s, .string sep] w fun e w' => ∃ g, e = .returned (.slice (some ⟨g, 0, none⟩) l.length l.length) ∧ g = w.heap.size ∧ w' = w.alloc (.cells (l.map Value.string).toArray 9) := by
  obtain ⟨m, hm⟩ := hE.mx
  have hlen := Lib.splitB_all sep h1 0 _ s rfl
  rw [hl] at hlen
  refine (Tryz.strings_Split s sep m w hs hm h1).mono ?_
  rintro e w' ⟨rfl, rfl⟩
  rw [hl, ← hlen]
  exact ⟨_, rfl, rfl, rfl⟩
theorem c_reg (n : Int) (has : Bool) (w : World) : Calls Tryz.prog 153 #[.int .i64 n, .bool has] w fun e w' => e = .returned (.bool (regB n has)) ∧ w = w' := by
  cases has
  · go_enter Tryz.func153, Tryz.ntmps153
    go_wp2
    go_returns
    exact ⟨by simp [regB], rfl⟩
  · go_enter Tryz.func153, Tryz.ntmps153
    go_wp2
    all_goals
      go_returns
      exact ⟨ebool (by rw [Bool.eq_iff_iff]; simp [regB, inR] <;> omega), rfl⟩
theorem c_bounds (c : Int) (w : World) (hc : 0 ≤ c ∧ c ≤ 5) : Calls Tryz.prog 152 #[.int .u8 (cByte c)] w fun e w' => e = .returned (.tuple #[.int .i64 (lowC c), .int .i64 (highC c)]) ∧ w = w' := by
  have : c = 0 ∨ c = 1 ∨ c = 2 ∨ c = 3 ∨ c = 4 ∨ c = 5 := by omega
  rcases this with rfl | rfl | rfl | rfl | rfl | rfl <;>
  · simp only [cByte, lowC, highC]
    go_enter Tryz.func152, Tryz.ntmps152
    go_wp2
    go_returns
    exact ⟨rfl, rfl⟩
theorem fields_words : fieldsS words = wordL := by kernel_rfl
theorem words_ascii : ∀ (j : Nat) b, words.data.toList[j]? = some b → b.toNat < 128 := by
  have h : ∀ b ∈ words.data.toList, b.toNat < 128 := by decide
  exact fun j b hb => h b (List.mem_of_getElem? hb)
theorem c_words {w0 w : World} {rs : List Res} (hI : Inv w0 rs w) (hE : Env w0) : Calls Tryz.prog 201 #[.string words] w fun e w' => ∃ g, e = .returned (.slice (some ⟨g, 0, none⟩) 23 23) ∧ Inv w0 (rs ++ [.box g 9 (wordL.map Value.string).toArray]) w' := by
  refine (c_Fields words w (hE.inv hI) (by decide) words_ascii wordL fields_words).mono ?_
  rintro e w' ⟨g, rfl, rfl, rfl⟩
  exact ⟨_, rfl, hI.alloc _ _⟩
set_option maxHeartbeats 16000000 in
theorem c_shapeOf (op : Int) (w : World) (hE : Env w) (h0 : 0 ≤ op) (h1 : op ≤ 22) : Calls Tryz.prog 151 #[.int .i64 op] w (Ret (.tuple #[.agg #[.string (wordOf op), .bool (shapeN op).1, .bool (shapeN op).2.1, .int .u8 (cByte (shapeN op).2.2)], .bool true]) w) := by
  have hk : op.toNat < 23 := by omega
  obtain ⟨wd, hwd⟩ : ∃ wd, wordL[op.toNat]? = some wd := ⟨_, List.getElem?_eq_getElem (by exact hk)⟩
  have hwo : wordOf op = wd := by unfold wordOf; rw [List.getD_eq_getElem?_getD, hwd]; rfl
  rw [hwo]
  have hww : (wordL.map Value.string).toArray[op.toNat]? = some (.string wd) := by simp [hwd]
  clear hwo hwd hk
  obtain ⟨wa, hwa⟩ : ∃ wa, (wordL.map Value.string).toArray = wa := ⟨_, rfl⟩
  rw [hwa] at hww
  have HQ := Lib.hid hwa
  clear hwa
  go_enter Tryz.func151, Tryz.ntmps151
  have hI := Inv.start w
  go_wp2_with (first | (refine listI rfl fun K hK => wpI_alloc 226 rfl hI Tryz.zeroValue226 (cs := #[.string ⟨#[]⟩, .bool false, .bool false, .int .u8 0]) (by first | rfl | kernel_rfl) fun gx w' hI' hb => hK _ _ ?_; clear hK K; (try clear hb); clear hI; have hI := hI'; clear hI'; (try simp only [mm, Act.put, Act.eval] at hI); (try clear c0); (try clear c1); (try clear c2); (try clear c3); (try clear c4); (try clear c5); (try have c0 := hI.cell (i := 0) rfl); (try have c1 := hI.cell (i := 1) rfl); (try have c2 := hI.cell (i := 2) rfl); (try have c3 := hI.cell (i := 3) rfl); (try have c4 := hI.cell (i := 4) rfl); (try have c5 := hI.cell (i := 5) rfl); skip) | (go_at_call 201; refine (c_words hI hE).mono ?_; rintro e w' ⟨gw, rfl, hI'⟩; rw [HQ.out] at hI'; (try clear hb); clear hI; have hI := hI'; clear hI'; (try simp only [mm, Act.put, Act.eval] at hI); (try clear c0); (try clear c1); (try clear c2); (try clear c3); (try clear c4); (try clear c5); (try have c0 := hI.cell (i := 0) rfl); (try have c1 := hI.cell (i := 1) rfl); (try have c2 := hI.cell (i := 2) rfl); (try have c3 := hI.cell (i := 3) rfl); (try have c4 := hI.cell (i := 4) rfl); (try have c5 := hI.cell (i := 5) rfl); skip) | (refine listI rfl fun K hK => wpI_storeW _ _ _ rfl hI rfl 0 rfl rfl rfl (by kernel_rfl) (by simp [Value.oneCell']) fun w' hI' => hK _ _ ?_; clear hK K; (try clear hb); clear hI; have hI := hI'; clear hI'; (try simp only [mm, Act.put, Act.eval] at hI); (try clear c0); (try clear c1); (try clear c2); (try clear c3); (try clear c4); (try clear c5); (try have c0 := hI.cell (i := 0) rfl); (try have c1 := hI.cell (i := 1) rfl); (try have c2 := hI.cell (i := 2) rfl); (try have c3 := hI.cell (i := 3) rfl); (try have c4 := hI.cell (i := 4) rfl); (try have c5 := hI.cell (i := 5) rfl); skip) | (refine listI rfl fun K hK => wpI_storeW _ _ _ rfl hI rfl 2 rfl rfl rfl (by kernel_rfl) (by simp [Value.oneCell']) fun w' hI' => hK _ _ ?_; clear hK K; (try clear hb); clear hI; have hI := hI'; clear hI'; (try simp only [mm, Act.put, Act.eval] at hI); (try clear c0); (try clear c1); (try clear c2); (try clear c3); (try clear c4); (try clear c5); (try have c0 := hI.cell (i := 0) rfl); (try have c1 := hI.cell (i := 1) rfl); (try have c2 := hI.cell (i := 2) rfl); (try have c3 := hI.cell (i := 3) rfl); (try have c4 := hI.cell (i := 4) rfl); (try have c5 := hI.cell (i := 5) rfl); skip) | (refine listI rfl fun K hK => wpI_store1 _ _ _ rfl hI rfl 0 rfl rfl rfl (by simp) (by kernel_rfl) fun w' hI' => hK _ _ ?_; clear hK K; (try clear hb); clear hI; have hI := hI'; clear hI'; (try simp only [mm, Act.put, Act.eval] at hI); (try clear c0); (try clear c1); (try clear c2); (try clear c3); (try clear c4); (try clear c5); (try have c0 := hI.cell (i := 0) rfl); (try have c1 := hI.cell (i := 1) rfl); (try have c2 := hI.cell (i := 2) rfl); (try have c3 := hI.cell (i := 3) rfl); (try have c4 := hI.cell (i := 4) rfl); (try have c5 := hI.cell (i := 5) rfl); skip) | (refine listI rfl fun K hK => wpI_store1 _ _ _ rfl hI rfl 1 rfl rfl rfl (by simp) (by kernel_rfl) fun w' hI' => hK _ _ ?_; clear hK K; (try clear hb); clear hI; have hI := hI'; clear hI'; (try simp only [mm, Act.put, Act.eval] at hI); (try clear c0); (try clear c1); (try clear c2); (try clear c3); (try clear c4); (try clear c5); (try have c0 := hI.cell (i := 0) rfl); (try have c1 := hI.cell (i := 1) rfl); (try have c2 := hI.cell (i := 2) rfl); (try have c3 := hI.cell (i := 3) rfl); (try have c4 := hI.cell (i := 4) rfl); (try have c5 := hI.cell (i := 5) rfl); skip) | (refine listI rfl fun K hK => wpI_store1 _ _ _ rfl hI rfl 2 rfl rfl rfl (by simp) (by kernel_rfl) fun w' hI' => hK _ _ ?_; clear hK K; (try clear hb); clear hI; have hI := hI'; clear hI'; (try simp only [mm, Act.put, Act.eval] at hI); (try clear c0); (try clear c1); (try clear c2); (try clear c3); (try clear c4); (try clear c5); (try have c0 := hI.cell (i := 0) rfl); (try have c1 := hI.cell (i := 1) rfl); (try have c2 := hI.cell (i := 2) rfl); (try have c3 := hI.cell (i := 3) rfl); (try have c4 := hI.cell (i := 4) rfl); (try have c5 := hI.cell (i := 5) rfl); skip) | fail)
  all_goals
    have hbx := hI.box (i := 0) rfl
    ((try simp only [Exit.inBlock, Exit.then]); refine bodyPost_ret (results_ct rfl rfl hbx Tryz.underlying226 rfl (by kernel_rfl)) rfl ?_)
    refine ⟨?_, hI.below⟩
    clear hbx hI hww HQ hE
    (try clear c0)
    (try clear c1)
    (try clear c2)
    simp only [beq_iff_eq, beq_eq_false_iff_ne, ne_eq] at *
    first
      | (subst_vars; rfl)
      | (unfold shapeN; rw [if_neg (by omega), if_neg (by omega), if_neg (by omega), if_neg (by omega), if_neg (by omega), if_neg (by omega), if_neg (by omega), if_neg (by omega), if_neg (by omega)]; rfl)
      | fail
theorem c_shapeOf_no (op : Int) (w : World) (hE : Env w) (h : op < 0 ∨ 22 < op) : Calls Tryz.prog 151 #[.int .i64 op] w (Ret (.tuple #[.agg #[.string ⟨#[]⟩, .bool false, .bool false, .int .u8 0], .bool false]) w) := by
  have hd : (decide (op < 0) || decide (23 ≤ op)) = true := by simp; omega
  go_enter Tryz.func151, Tryz.ntmps151
  have hI := Inv.start w
  go_wp2_with (first | (refine listI rfl fun K hK => wpI_alloc 226 rfl hI Tryz.zeroValue226 (cs := #[.string ⟨#[]⟩, .bool false, .bool false, .int .u8 0]) (by first | rfl | kernel_rfl) fun gx w' hI' hb => hK _ _ ?_; clear hK K; (try clear hb); clear hI; have hI := hI'; clear hI'; (try simp only [mm, Act.put, Act.eval] at hI); (try clear c0); (try clear c1); (try clear c2); (try clear c3); (try clear c4); (try clear c5); (try have c0 := hI.cell (i := 0) rfl); (try have c1 := hI.cell (i := 1) rfl); (try have c2 := hI.cell (i := 2) rfl); (try have c3 := hI.cell (i := 3) rfl); (try have c4 := hI.cell (i := 4) rfl); (try have c5 := hI.cell (i := 5) rfl); skip) | (go_at_call 201; refine (c_words hI hE).mono ?_; rintro e w' ⟨gw, rfl, hI'⟩; (try clear hb); clear hI; have hI := hI'; clear hI'; (try simp only [mm, Act.put, Act.eval] at hI); (try clear c0); (try clear c1); (try clear c2); (try clear c3); (try clear c4); (try clear c5); (try have c0 := hI.cell (i := 0) rfl); (try have c1 := hI.cell (i := 1) rfl); (try have c2 := hI.cell (i := 2) rfl); (try have c3 := hI.cell (i := 3) rfl); (try have c4 := hI.cell (i := 4) rfl); (try have c5 := hI.cell (i := 5) rfl); skip) | (refine listI rfl fun K hK => wpI_storeW _ _ _ rfl hI rfl 0 rfl rfl rfl (by kernel_rfl) (by simp [Value.oneCell']) fun w' hI' => hK _ _ ?_; clear hK K; (try clear hb); clear hI; have hI := hI'; clear hI'; (try simp only [mm, Act.put, Act.eval] at hI); (try clear c0); (try clear c1); (try clear c2); (try clear c3); (try clear c4); (try clear c5); (try have c0 := hI.cell (i := 0) rfl); (try have c1 := hI.cell (i := 1) rfl); (try have c2 := hI.cell (i := 2) rfl); (try have c3 := hI.cell (i := 3) rfl); (try have c4 := hI.cell (i := 4) rfl); (try have c5 := hI.cell (i := 5) rfl); skip) | fail)
  all_goals
    first
      | (exfalso; omega)
      | (have hbx := hI.box (i := 0) rfl
         ((try simp only [Exit.inBlock, Exit.then]); refine bodyPost_ret (results_ct rfl rfl hbx Tryz.underlying226 rfl (by kernel_rfl)) rfl ?_)
         exact ⟨rfl, hI.below⟩)
end Go.Proofs.YtbkjhdohkdeniaaGreatDoor
