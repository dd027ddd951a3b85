/- What the parts say: The contracts of the reference's InstCheck, InstPack, InstRead. Conditions: the library's variables hold what they were laid with. -/
import Derived.Test.YtbkjhdohkdeniaaGreatDoorP22
import Derived.Test.YtbkjhdohkdeniaaGreatDoorP28
import Derived.Test.YtbkjhdohkdeniaaGreatDoorP29
set_option linter.unusedVariables false
set_option linter.unusedSimpArgs false
namespace Go.Proofs.YtbkjhdohkdeniaaGreatDoor
open Go.RowKit
set_option maxRecDepth 100000
def lowM (a b c : Int × Int) : Array MapEntry := #[⟨.string ⟨#[65]⟩, .agg #[.int .i64 a.1, .int .i64 a.2], 0⟩, ⟨.string ⟨#[66]⟩, .agg #[.int .i64 b.1, .int .i64 b.2], 1⟩, ⟨.string ⟨#[67]⟩, .agg #[.int .i64 c.1, .int .i64 c.2], 2⟩]
section
variable (a b c : Int × Int) (x y : Int)
theorem find_A : Instr.findNow .string (.string ⟨#[65]⟩) (lowM a b c).toList 0 = some (some (0, .agg #[.int .i64 a.1, .int .i64 a.2])) := by kernel_rfl
theorem find_B : Instr.findNow .string (.string ⟨#[66]⟩) (lowM a b c).toList 0 = some (some (1, .agg #[.int .i64 b.1, .int .i64 b.2])) := by kernel_rfl
theorem find_C : Instr.findNow .string (.string ⟨#[67]⟩) (lowM a b c).toList 0 = some (some (2, .agg #[.int .i64 c.1, .int .i64 c.2])) := by kernel_rfl
theorem mod_A : (lowM a b c).modify 0 (fun e => { e with key := .string ⟨#[65]⟩, val := .agg #[.int .i64 x, .int .i64 y] }) = lowM (x, y) b c := by kernel_rfl
theorem mod_B : (lowM a b c).modify 1 (fun e => { e with key := .string ⟨#[66]⟩, val := .agg #[.int .i64 x, .int .i64 y] }) = lowM a (x, y) c := by kernel_rfl
theorem mod_C : (lowM a b c).modify 2 (fun e => { e with key := .string ⟨#[67]⟩, val := .agg #[.int .i64 x, .int .i64 y] }) = lowM a b (x, y) := by kernel_rfl
end
def stepW (st : (Int × Int) × (Int × Int) × (Int × Int)) (w : ByteArray) : (Int × Int) × (Int × Int) × (Int × Int) :=
  if w.data.toList = [65] then ((0, 7), st.2) else if w.data.toList = [66] then (st.1, (0, 7), st.2.2) else
    (st.1, st.2.1, if w.data.toList = [110] then (-2048, 2047) else if w.data.toList = [114] then (0, 7) else if w.data.toList = [112] then (0, 127) else if w.data.toList = [113] then (0, 5) else (0, 255))
def st0 : (Int × Int) × (Int × Int) × (Int × Int) := ((0, 0), (0, 0), (0, 0))
theorem words_kinds : ∀ l ∈ partsL, ∃ h t, l = h :: t ∧ t.length ≤ 3 ∧ ∀ x ∈ t, x = ⟨#[65]⟩ ∨ x = ⟨#[66]⟩ ∨ x = ⟨#[110]⟩ ∨ x = ⟨#[114]⟩ ∨ x = ⟨#[112]⟩ ∨ x = ⟨#[113]⟩ ∨ x = ⟨#[109]⟩ := by
  have h : (partsL.all fun l => match l with | [] => false | _ :: t => decide (t.length ≤ 3) && t.all fun x => x.data.toList == [65] || x.data.toList == [66] || x.data.toList == [110] || x.data.toList == [114] || x.data.toList == [112] || x.data.toList == [113] || x.data.toList == [109]) = true := by kernel_rfl
  have hx : ∀ (x : ByteArray) (n : UInt8), x.data.toList = [n] → x = ⟨#[n]⟩ := fun x n hn => by
    cases x with | mk d => cases d with | mk l => simp at hn; rw [hn]
  intro l hl
  have := List.all_eq_true.1 h l hl
  match l, this with
  | hd :: t, this =>
    simp only [Bool.and_eq_true, decide_eq_true_eq, List.all_eq_true] at this
    refine ⟨hd, t, rfl, this.1, fun x hxt => ?_⟩
    have h2 := this.2 x hxt
    simp only [Bool.or_eq_true, beq_iff_eq] at h2
    rcases h2 with (((((h2 | h2) | h2) | h2) | h2) | h2) | h2
    · exact .inl (hx x _ h2)
    · exact .inr (.inl (hx x _ h2))
    · exact .inr (.inr (.inl (hx x _ h2)))
    · exact .inr (.inr (.inr (.inl (hx x _ h2))))
    · exact .inr (.inr (.inr (.inr (.inl (hx x _ h2)))))
    · exact .inr (.inr (.inr (.inr (.inr (.inl (hx x _ h2))))))
    · exact .inr (.inr (.inr (.inr (.inr (.inr (hx x _ h2))))))
theorem fold_next {α β : Type} (f : β → α → β) (st : β) {l : List α} {j : Nat} {x : α} (h : l[j]? = some x) : (l.take (j + 1)).foldl f st = f ((l.take j).foldl f st) x := by
  rw [List.take_add_one, h, List.foldl_append]
  rfl
theorem parts_shape (k : Nat) (hk : k < 23) (l : List ByteArray) (hl : partsL[k]? = some l) : l.tail.foldl stepW st0 = ((0, if (shapeN k).1 = true then 7 else 0), (0, if (shapeN k).2.1 = true then 7 else 0), (lowC (shapeN k).2.2, highC (shapeN k).2.2)) := by
  have h : ((List.range 23).all fun k => match partsL[k]? with | none => true | some l => decide (l.tail.foldl stepW st0 = ((0, if (shapeN k).1 = true then 7 else 0), (0, if (shapeN k).2.1 = true then 7 else 0), (lowC (shapeN k).2.2, highC (shapeN k).2.2)))) = true := by kernel_rfl
  have := List.all_eq_true.1 h k (List.mem_range.2 hk)
  rw [hl] at this
  exact of_decide_eq_true this
theorem reg_in (n : Int) (has : Bool) : inR n 0 (if has = true then 7 else 0) = regB n has := by
  cases has
  · rw [if_neg (by decide), Bool.eq_iff_iff]; simp [regB, inR]; omega
  · rfl
theorem instE_st {i : Inst} {k : Nat} {st : (Int × Int) × (Int × Int) × (Int × Int)} (hk : i.op = k) (hk23 : k < 23) (h : st = ((0, if (shapeN k).1 = true then 7 else 0), (0, if (shapeN k).2.1 = true then 7 else 0), (lowC (shapeN k).2.2, highC (shapeN k).2.2))) :
    instE i = if inR i.a st.1.1 st.1.2 = true then (if inR i.b st.2.1.1 st.2.1.2 = true then (if inR i.c st.2.2.1 st.2.2.2 = true then 0 else 1) else 1) else 1 := by
  subst h
  dsimp only
  rw [reg_in, reg_in, ← hk]
  unfold instE instOk
  rw [inR_iff.2 (show 0 ≤ i.op ∧ i.op ≤ 22 by omega)]
  cases regB i.a (shapeN i.op).1 <;> cases regB i.b (shapeN i.op).2.1 <;> cases inR i.c (lowC (shapeN i.op).2.2) (highC (shapeN i.op).2.2) <;> rfl
theorem r_out {n low high : Int} (h : inR n low high = false) (w : World) : Calls Tryz.prog 39 #[.int .i64 n, .int .i64 low, .int .i64 high] w fun e w' => e = .returned (.bool true) ∧ w = w' := by
  have := r_outside n low high w
  rw [h] at this
  exact this
theorem idx0 (x y : Int) (W : World) : (Instr.index 237 (.agg #[.int .i64 x, .int .i64 y]) (.int .i64 0)).run Tryz.prog W = .ok (.int .i64 x) W := by kernel_rfl
theorem idx1 (x y : Int) (W : World) : (Instr.index 237 (.agg #[.int .i64 x, .int .i64 y]) (.int .i64 1)).run Tryz.prog W = .ok (.int .i64 y) W := by kernel_rfl
theorem r_in {n low high : Int} (h : inR n low high = true) (w : World) : Calls Tryz.prog 39 #[.int .i64 n, .int .i64 low, .int .i64 high] w fun e w' => e = .returned (.bool false) ∧ w = w' := by
  have := r_outside n low high w
  rw [h] at this
  exact this
set_option maxHeartbeats 16000000 in
theorem r_InstCheck (i : Inst) (w : World) (hE : Env w) : Calls Tryz.prog 94 #[.agg #[.int .i64 i.op, .int .i64 i.a, .int .i64 i.b, .int .i64 i.c]] w (Ret (.int .i64 (instE i)) w) := by
  by_cases hop : 0 ≤ i.op ∧ i.op ≤ 22
  · have hw22 : IntKind.i64.wrap 22 = 22 := by decide
    have ho : inR i.op 0 22 = true := inR_iff.2 hop
    go_enter Tryz.func94, Tryz.ntmps94
    have hI := Inv.start w
    go_wp2_with (first | (refine listI rfl fun K hK => wpI_box _ _ rfl hI rfl fun gx w' hI' hb => hK _ _ ?_; clear hK K; (try clear hb); clear hI; have hI := hI'; clear hI'; (try simp only [mm, Act.put, Act.eval] at hI); (try clear c0); (try clear c1); (try clear c2); (try clear c3); (try clear c4); (try clear c5); (try clear c6); (try clear c7); (try have c0 := hI.cell (i := 0) rfl); (try have c1 := hI.cell (i := 1) rfl); (try have c2 := hI.cell (i := 2) rfl); (try have c3 := hI.cell (i := 3) rfl); (try have c4 := hI.cell (i := 4) rfl); (try have c5 := hI.cell (i := 5) rfl); (try have c6 := hI.cell (i := 6) rfl); (try have c7 := hI.cell (i := 7) rfl); skip) | (refine listI rfl fun K hK => wpI_box1 _ _ rfl hI rfl rfl fun gx w' hI' hb => hK _ _ ?_; clear hK K; (try clear hb); clear hI; have hI := hI'; clear hI'; (try simp only [mm, Act.put, Act.eval] at hI); (try clear c0); (try clear c1); (try clear c2); (try clear c3); (try clear c4); (try clear c5); (try clear c6); (try clear c7); (try have c0 := hI.cell (i := 0) rfl); (try have c1 := hI.cell (i := 1) rfl); (try have c2 := hI.cell (i := 2) rfl); (try have c3 := hI.cell (i := 3) rfl); (try have c4 := hI.cell (i := 4) rfl); (try have c5 := hI.cell (i := 5) rfl); (try have c6 := hI.cell (i := 6) rfl); (try have c7 := hI.cell (i := 7) rfl); skip) | fail)
    (refine wp_region_K [0] (by kernel_rfl) hI fun w' hI' hHeld => ?_; (try clear hb); clear hI; have hI := hI'; clear hI'; (try simp only [mm, Act.put, Act.eval] at hI); (try clear c0); (try clear c1); (try clear c2); (try clear c3); (try clear c4); (try clear c5); (try clear c6); (try clear c7); (try have c0 := hI.cell (i := 0) rfl); (try have c1 := hI.cell (i := 1) rfl); (try have c2 := hI.cell (i := 2) rfl); (try have c3 := hI.cell (i := 3) rfl); (try have c4 := hI.cell (i := 4) rfl); (try have c5 := hI.cell (i := 5) rfl); (try have c6 := hI.cell (i := 6) rfl); (try have c7 := hI.cell (i := 7) rfl); skip)
    (refine tk 0 ?_; (try simp only [np, Act.put]))
    (refine tk 1 ?_; (try simp only [np, Act.put]))
    refine oneH (i := 2) (by kernel_rfl) rfl (fun K hK => ?_)
    (go_simp; refine (r_table hI hE).mono ?_; rintro e w' ⟨gt, rfl, hI'⟩; refine hK.out _ _ (hI'.held (by simp)) (fun hHeld => ?_); clear hK K; (try clear hb); clear hI; have hI := hI'; clear hI'; (try simp only [mm, Act.put, Act.eval] at hI); (try clear c0); (try clear c1); (try clear c2); (try clear c3); (try clear c4); (try clear c5); (try clear c6); (try clear c7); (try have c0 := hI.cell (i := 0) rfl); (try have c1 := hI.cell (i := 1) rfl); (try have c2 := hI.cell (i := 2) rfl); (try have c3 := hI.cell (i := 3) rfl); (try have c4 := hI.cell (i := 4) rfl); (try have c5 := hI.cell (i := 5) rfl); (try have c6 := hI.cell (i := 6) rfl); (try have c7 := hI.cell (i := 7) rfl); skip; (try simp only [Act.put, List.setIfInBounds_toArray, List.set_cons_zero, List.set_cons_succ]))
    (refine tk 3 ?_; (try simp only [np, Act.put]))
    (refine tk 4 ?_; (try simp only [np, Act.put]))
    refine oneH (i := 5) (by kernel_rfl) rfl (fun K hK => ?_)
    (go_simp; refine (r_in ho _).mono ?_; rintro e w' ⟨rfl, rfl⟩; have hI' := hI; refine hK.out _ _ (hI'.held (by simp)) (fun hHeld => ?_); clear hK K; (try clear hb); clear hI; have hI := hI'; clear hI'; (try simp only [mm, Act.put, Act.eval] at hI); (try clear c0); (try clear c1); (try clear c2); (try clear c3); (try clear c4); (try clear c5); (try clear c6); (try clear c7); (try have c0 := hI.cell (i := 0) rfl); (try have c1 := hI.cell (i := 1) rfl); (try have c2 := hI.cell (i := 2) rfl); (try have c3 := hI.cell (i := 3) rfl); (try have c4 := hI.cell (i := 4) rfl); (try have c5 := hI.cell (i := 5) rfl); (try have c6 := hI.cell (i := 6) rfl); (try have c7 := hI.cell (i := 7) rfl); skip; (try simp only [Act.put, List.setIfInBounds_toArray, List.set_cons_zero, List.set_cons_succ]))
    refine wpAnyH_done (by kernel_rfl) ?_ _
    clear hHeld
    go_wp2_with (first | (refine listI rfl fun K hK => wpI_box _ _ rfl hI rfl fun gx w' hI' hb => hK _ _ ?_; clear hK K; (try clear hb); clear hI; have hI := hI'; clear hI'; (try simp only [mm, Act.put, Act.eval] at hI); (try clear c0); (try clear c1); (try clear c2); (try clear c3); (try clear c4); (try clear c5); (try clear c6); (try clear c7); (try have c0 := hI.cell (i := 0) rfl); (try have c1 := hI.cell (i := 1) rfl); (try have c2 := hI.cell (i := 2) rfl); (try have c3 := hI.cell (i := 3) rfl); (try have c4 := hI.cell (i := 4) rfl); (try have c5 := hI.cell (i := 5) rfl); (try have c6 := hI.cell (i := 6) rfl); (try have c7 := hI.cell (i := 7) rfl); skip) | (refine listI rfl fun K hK => wpI_box1 _ _ rfl hI rfl rfl fun gx w' hI' hb => hK _ _ ?_; clear hK K; (try clear hb); clear hI; have hI := hI'; clear hI'; (try simp only [mm, Act.put, Act.eval] at hI); (try clear c0); (try clear c1); (try clear c2); (try clear c3); (try clear c4); (try clear c5); (try clear c6); (try clear c7); (try have c0 := hI.cell (i := 0) rfl); (try have c1 := hI.cell (i := 1) rfl); (try have c2 := hI.cell (i := 2) rfl); (try have c3 := hI.cell (i := 3) rfl); (try have c4 := hI.cell (i := 4) rfl); (try have c5 := hI.cell (i := 5) rfl); (try have c6 := hI.cell (i := 6) rfl); (try have c7 := hI.cell (i := 7) rfl); skip) | (refine listI rfl fun K hK => wpI_makeMap _ rfl hI fun gm w' hI' hb => hK _ _ ?_; clear hK K; (try clear hb); clear hI; have hI := hI'; clear hI'; (try simp only [mm, Act.put, Act.eval] at hI); (try clear c0); (try clear c1); (try clear c2); (try clear c3); (try clear c4); (try clear c5); (try clear c6); (try clear c7); (try have c0 := hI.cell (i := 0) rfl); (try have c1 := hI.cell (i := 1) rfl); (try have c2 := hI.cell (i := 2) rfl); (try have c3 := hI.cell (i := 3) rfl); (try have c4 := hI.cell (i := 4) rfl); (try have c5 := hI.cell (i := 5) rfl); (try have c6 := hI.cell (i := 6) rfl); (try have c7 := hI.cell (i := 7) rfl); skip) | (refine listI rfl fun K hK => wpI_insNew _ _ _ _ rfl Tryz.underlying238 Tryz.underlying9 hI rfl 2 rfl rfl rfl (by kernel_rfl) fun w' hI' => hK _ _ ?_; clear hK K; (try clear hb); clear hI; have hI := hI'; clear hI'; (try simp only [mm, Act.put, Act.eval] at hI); (try clear c0); (try clear c1); (try clear c2); (try clear c3); (try clear c4); (try clear c5); (try clear c6); (try clear c7); (try have c0 := hI.cell (i := 0) rfl); (try have c1 := hI.cell (i := 1) rfl); (try have c2 := hI.cell (i := 2) rfl); (try have c3 := hI.cell (i := 3) rfl); (try have c4 := hI.cell (i := 4) rfl); (try have c5 := hI.cell (i := 5) rfl); (try have c6 := hI.cell (i := 6) rfl); (try have c7 := hI.cell (i := 7) rfl); skip) | fail)
    have hI' := hI.cast (rs' := [.box gx 95 #[.int .i64 i.op, .int .i64 i.a, .int .i64 i.b, .int .i64 i.c], .box gt 9 (tableL.map Value.string).toArray, .obj gm (.map (lowM (0, 0) (0, 0) (0, 0)) 3)]) rfl
    clear hI
    have hI := hI'
    clear hI'
    obtain ⟨k, hk⟩ : ∃ k : Nat, i.op = k := ⟨i.op.toNat, by omega⟩
    have hk23 : k < 23 := by omega
    have htk : i.op.toNat = k := by omega
    obtain ⟨sr, hsr⟩ : ∃ s, tableL[k]? = some s := ⟨_, List.getElem?_eq_getElem hk23⟩
    obtain ⟨lr, hlr⟩ : ∃ l, partsL[k]? = some l := ⟨_, List.getElem?_eq_getElem hk23⟩
    have hsh := parts_shape k hk23 lr hlr
    obtain ⟨hd, tl, hlt, ht3, hkinds⟩ := words_kinds lr (List.mem_of_getElem? hlr)
    subst hlt
    have HSH := Lib.hid hsh
    have HK := Lib.hid hkinds
    have HKN := Lib.hid hk
    have hop0 : 0 ≤ i.op := hop.1
    have hop23 : i.op < 23 := by omega
    have hcell : (tableL.map Value.string).toArray[i.op.toNat]? = some (.string sr) := by rw [htk]; simp [hsr]
    clear hsh hkinds hk hop htk
    clear hHeld
    rcases tl with _ | ⟨x0, tl⟩
    · have hle1 : (1 : Int) ≤ (([hd] : List ByteArray).length : Int) := by simp
      (refine wp_region_K [0] (by kernel_rfl) hI fun w' hI' hHeld => ?_; (try clear hb); clear hI; have hI := hI'; clear hI'; (try simp only [mm, Act.put, Act.eval] at hI); (try clear c0); (try clear c1); (try clear c2); (try clear c3); (try clear c4); (try clear c5); (try clear c6); (try clear c7); (try have c0 := hI.cell (i := 0) rfl); (try have c1 := hI.cell (i := 1) rfl); (try have c2 := hI.cell (i := 2) rfl); (try have c3 := hI.cell (i := 3) rfl); (try have c4 := hI.cell (i := 4) rfl); (try have c5 := hI.cell (i := 5) rfl); (try have c6 := hI.cell (i := 6) rfl); (try have c7 := hI.cell (i := 7) rfl); skip)
      (refine tk 1 ?_; (try simp only [np, Act.put]))
      (refine tk 2 ?_; (try simp only [np, Act.put]))
      (refine tk 8 ?_; (try simp only [np, Act.put]))
      refine oneH (i := 0) (by kernel_rfl) rfl (fun K hK => ?_)
      (go_simp; refine (r_table hI hE).mono ?_; rintro e w' ⟨gt2, rfl, hI'⟩; refine hK.out _ _ (hI'.held (by simp)) (fun hHeld => ?_); clear hK K; (try clear hb); clear hI; have hI := hI'; clear hI'; (try simp only [mm, Act.put, Act.eval] at hI); (try clear c0); (try clear c1); (try clear c2); (try clear c3); (try clear c4); (try clear c5); (try clear c6); (try clear c7); (try have c0 := hI.cell (i := 0) rfl); (try have c1 := hI.cell (i := 1) rfl); (try have c2 := hI.cell (i := 2) rfl); (try have c3 := hI.cell (i := 3) rfl); (try have c4 := hI.cell (i := 4) rfl); (try have c5 := hI.cell (i := 5) rfl); (try have c6 := hI.cell (i := 6) rfl); (try have c7 := hI.cell (i := 7) rfl); skip; (try simp only [Act.put, List.setIfInBounds_toArray, List.set_cons_zero, List.set_cons_succ]))
      (refine tk 3 ?_; (try simp only [np, Act.put]))
      have hc3 := (hI.cell (i := 3) rfl i.op.toNat).trans hcell
      refine oneH (i := 4) (by kernel_rfl) rfl (fun K hK => ?_)
      go_simp
      refine hK.out _ _ (hI.held (by simp)) (fun hHeld => ?_)
      clear hK K
      (try simp only [Act.put, List.setIfInBounds_toArray, List.set_cons_zero, List.set_cons_succ])
      refine oneH (i := 5) (by kernel_rfl) rfl (fun K hK => ?_)
      (go_simp; refine (c_parts hI hE k sr (hd :: []) hsr hlr).mono ?_; rintro e w' ⟨gp, rfl, hI'⟩; refine hK.out _ _ (hI'.held (by simp)) (fun hHeld => ?_); clear hK K; (try clear hb); clear hI; have hI := hI'; clear hI'; (try simp only [mm, Act.put, Act.eval] at hI); (try clear c0); (try clear c1); (try clear c2); (try clear c3); (try clear c4); (try clear c5); (try clear c6); (try clear c7); (try have c0 := hI.cell (i := 0) rfl); (try have c1 := hI.cell (i := 1) rfl); (try have c2 := hI.cell (i := 2) rfl); (try have c3 := hI.cell (i := 3) rfl); (try have c4 := hI.cell (i := 4) rfl); (try have c5 := hI.cell (i := 5) rfl); (try have c6 := hI.cell (i := 6) rfl); (try have c7 := hI.cell (i := 7) rfl); skip; (try simp only [Act.put, List.setIfInBounds_toArray, List.set_cons_zero, List.set_cons_succ]))
      (refine tk 6 ?_; (try simp only [np, Act.put]))
      (refine tk 7 ?_; (try simp only [np, Act.put]))
      refine wpAnyH_done (by kernel_rfl) ?_ _
      clear hHeld hc3 hcell
      obtain ⟨pa, hpa⟩ : ∃ pa, ((hd :: []).map Value.string).toArray = pa := ⟨_, rfl⟩
      have hpx : ∀ (j : Nat) x, ([] : List ByteArray)[j]? = some x → pa[1 + j]? = some (.string x) := fun j x hx => by rw [← hpa, Nat.add_comm, List.getElem?_toArray, List.getElem?_map, List.getElem?_cons_succ, hx]; rfl
      have HPX := Lib.hid hpx
      rw [hpa] at hI
      clear hpx hpa
      (try clear c0); (try clear c1); (try clear c2); (try clear c3); (try clear c4); (try clear c5); (try clear c6); (try clear c7); (try have c0 := hI.cell (i := 0) rfl); (try have c1 := hI.cell (i := 1) rfl); (try have c2 := hI.cell (i := 2) rfl); (try have c3 := hI.cell (i := 3) rfl); (try have c4 := hI.cell (i := 4) rfl); (try have c5 := hI.cell (i := 5) rfl); (try have c6 := hI.cell (i := 6) rfl); (try have c7 := hI.cell (i := 7) rfl); skip
      go_wp2_with fail
      go_loopw [5, 25] (fun _ v wr => ∃ j : Nat, v = .int .i64 j ∧ j ≤ ([] : List ByteArray).length ∧ Inv w [.box gx 95 #[.int .i64 i.op, .int .i64 i.a, .int .i64 i.b, .int .i64 i.c], .box gt 9 (tableL.map Value.string).toArray, .obj gm (.map (lowM (List.foldl stepW st0 (([] : List ByteArray).take j)).1 (List.foldl stepW st0 (([] : List ByteArray).take j)).2.1 (List.foldl stepW st0 (([] : List ByteArray).take j)).2.2) 3), .box gt2 9 (tableL.map Value.string).toArray, .box gp 9 pa] wr) (fun _ v _ => (([] : List ByteArray).length - intOf v).toNat)
      case atStart => exact ⟨0, rfl, by omega, hI⟩
      case round =>
        clear hI
        obtain ⟨j, rfl, hj, hI⟩ := hrel
        generalize hst : List.foldl stepW st0 (([] : List ByteArray).take j) = st at hI
        obtain ⟨sa, sb, sc⟩ := st
        dsimp only at hI
        have HST := Lib.hid hst
        clear hst
        have hjg : j ≥ ([] : List ByteArray).length := Nat.zero_le _
        have hjj : j = ([] : List ByteArray).length := by omega
        subst hjj
        have hres := instE_st HKN.out hk23 (HST.out.symm.trans ((by rw [List.take_length]; rfl : List.foldl stepW st0 (([] : List ByteArray).take ([] : List ByteArray).length) = List.foldl stepW st0 (hd :: ([] : List ByteArray)).tail).trans HSH.out))
        dsimp only at hres
        have hi0 := idx0
        have hi1 := idx1
        (try clear c0); (try clear c1); (try clear c2); (try clear c3); (try clear c4); (try clear c5); (try clear c6); (try clear c7); (try have c0 := hI.cell (i := 0) rfl); (try have c1 := hI.cell (i := 1) rfl); (try have c2 := hI.cell (i := 2) rfl); (try have c3 := hI.cell (i := 3) rfl); (try have c4 := hI.cell (i := 4) rfl); (try have c5 := hI.cell (i := 5) rfl); (try have c6 := hI.cell (i := 6) rfl); (try have c7 := hI.cell (i := 7) rfl); skip
        have hob : wr.heap[gm]? = some (.map (lowM sa sb sc) 3) := hI.ok 2 _ rfl
        have hlA := run_lookS (P := Tryz.prog) 238 Tryz.underlying238 Tryz.underlying9 hob (find_A sa sb sc)
        have hlB := run_lookS (P := Tryz.prog) 238 Tryz.underlying238 Tryz.underlying9 hob (find_B sa sb sc)
        have hlC := run_lookS (P := Tryz.prog) 238 Tryz.underlying238 Tryz.underlying9 hob (find_C sa sb sc)
        clear hob
        have HIN := Lib.hid (fun n lo hi w' => r_outside n lo hi w')
        cases h1 : inR i.a sa.1 sa.2
        · have HR := Lib.hid (hres.trans (if_neg (by rw [h1]; decide)))
          clear hres
          go_wp2_with (first | (go_at_call 39; (with_reducible refine (HIN.out _ _ _ _).mono ?_); rintro e w1 ⟨rfl, rfl⟩) | fail)
          go_returns
          exact Ret.int HR.out.symm hI.below
        · cases h2 : inR i.b sb.1 sb.2
          · have HR := Lib.hid ((hres.trans (if_pos h1)).trans (if_neg (by rw [h2]; decide)))
            clear hres
            go_wp2_with (first | (go_at_call 39; (with_reducible refine (HIN.out _ _ _ _).mono ?_); rintro e w1 ⟨rfl, rfl⟩) | fail)
            go_returns
            exact Ret.int HR.out.symm hI.below
          · cases h3 : inR i.c sc.1 sc.2
            · have HR := Lib.hid (((hres.trans (if_pos h1)).trans (if_pos h2)).trans (if_neg (by rw [h3]; decide)))
              clear hres
              go_wp2_with (first | (go_at_call 39; (with_reducible refine (HIN.out _ _ _ _).mono ?_); rintro e w1 ⟨rfl, rfl⟩) | fail)
              go_returns
              exact Ret.int HR.out.symm hI.below
            · have HR := Lib.hid (((hres.trans (if_pos h1)).trans (if_pos h2)).trans (if_pos h3))
              clear hres
              go_wp2_with (first | (go_at_call 39; (with_reducible refine (HIN.out _ _ _ _).mono ?_); rintro e w1 ⟨rfl, rfl⟩) | fail)
              go_returns
              exact Ret.int HR.out.symm hI.below
    · have hle1 : (1 : Int) ≤ (tl.length : Int) + 1 + 1 := by omega
      (refine wp_region_K [0] (by kernel_rfl) hI fun w' hI' hHeld => ?_; (try clear hb); clear hI; have hI := hI'; clear hI'; (try simp only [mm, Act.put, Act.eval] at hI); (try clear c0); (try clear c1); (try clear c2); (try clear c3); (try clear c4); (try clear c5); (try clear c6); (try clear c7); (try have c0 := hI.cell (i := 0) rfl); (try have c1 := hI.cell (i := 1) rfl); (try have c2 := hI.cell (i := 2) rfl); (try have c3 := hI.cell (i := 3) rfl); (try have c4 := hI.cell (i := 4) rfl); (try have c5 := hI.cell (i := 5) rfl); (try have c6 := hI.cell (i := 6) rfl); (try have c7 := hI.cell (i := 7) rfl); skip)
      (refine tk 1 ?_; (try simp only [np, Act.put]))
      (refine tk 2 ?_; (try simp only [np, Act.put]))
      (refine tk 8 ?_; (try simp only [np, Act.put]))
      refine oneH (i := 0) (by kernel_rfl) rfl (fun K hK => ?_)
      (go_simp; refine (r_table hI hE).mono ?_; rintro e w' ⟨gt2, rfl, hI'⟩; refine hK.out _ _ (hI'.held (by simp)) (fun hHeld => ?_); clear hK K; (try clear hb); clear hI; have hI := hI'; clear hI'; (try simp only [mm, Act.put, Act.eval] at hI); (try clear c0); (try clear c1); (try clear c2); (try clear c3); (try clear c4); (try clear c5); (try clear c6); (try clear c7); (try have c0 := hI.cell (i := 0) rfl); (try have c1 := hI.cell (i := 1) rfl); (try have c2 := hI.cell (i := 2) rfl); (try have c3 := hI.cell (i := 3) rfl); (try have c4 := hI.cell (i := 4) rfl); (try have c5 := hI.cell (i := 5) rfl); (try have c6 := hI.cell (i := 6) rfl); (try have c7 := hI.cell (i := 7) rfl); skip; (try simp only [Act.put, List.setIfInBounds_toArray, List.set_cons_zero, List.set_cons_succ]))
      (refine tk 3 ?_; (try simp only [np, Act.put]))
      have hc3 := (hI.cell (i := 3) rfl i.op.toNat).trans hcell
      refine oneH (i := 4) (by kernel_rfl) rfl (fun K hK => ?_)
      go_simp
      refine hK.out _ _ (hI.held (by simp)) (fun hHeld => ?_)
      clear hK K
      (try simp only [Act.put, List.setIfInBounds_toArray, List.set_cons_zero, List.set_cons_succ])
      refine oneH (i := 5) (by kernel_rfl) rfl (fun K hK => ?_)
      (go_simp; refine (c_parts hI hE k sr (hd :: (x0 :: tl)) hsr hlr).mono ?_; rintro e w' ⟨gp, rfl, hI'⟩; refine hK.out _ _ (hI'.held (by simp)) (fun hHeld => ?_); clear hK K; (try clear hb); clear hI; have hI := hI'; clear hI'; (try simp only [mm, Act.put, Act.eval] at hI); (try clear c0); (try clear c1); (try clear c2); (try clear c3); (try clear c4); (try clear c5); (try clear c6); (try clear c7); (try have c0 := hI.cell (i := 0) rfl); (try have c1 := hI.cell (i := 1) rfl); (try have c2 := hI.cell (i := 2) rfl); (try have c3 := hI.cell (i := 3) rfl); (try have c4 := hI.cell (i := 4) rfl); (try have c5 := hI.cell (i := 5) rfl); (try have c6 := hI.cell (i := 6) rfl); (try have c7 := hI.cell (i := 7) rfl); skip; (try simp only [Act.put, List.setIfInBounds_toArray, List.set_cons_zero, List.set_cons_succ]))
      (refine tk 6 ?_; (try simp only [np, Act.put]))
      (refine tk 7 ?_; (try simp only [np, Act.put]))
      refine wpAnyH_done (by kernel_rfl) ?_ _
      clear hHeld hc3 hcell
      obtain ⟨pa, hpa⟩ : ∃ pa, ((hd :: (x0 :: tl)).map Value.string).toArray = pa := ⟨_, rfl⟩
      have hpx : ∀ (j : Nat) x, (x0 :: tl)[j]? = some x → pa[1 + j]? = some (.string x) := fun j x hx => by rw [← hpa, Nat.add_comm, List.getElem?_toArray, List.getElem?_map, List.getElem?_cons_succ, hx]; rfl
      have HPX := Lib.hid hpx
      rw [hpa] at hI
      clear hpx hpa
      (try clear c0); (try clear c1); (try clear c2); (try clear c3); (try clear c4); (try clear c5); (try clear c6); (try clear c7); (try have c0 := hI.cell (i := 0) rfl); (try have c1 := hI.cell (i := 1) rfl); (try have c2 := hI.cell (i := 2) rfl); (try have c3 := hI.cell (i := 3) rfl); (try have c4 := hI.cell (i := 4) rfl); (try have c5 := hI.cell (i := 5) rfl); (try have c6 := hI.cell (i := 6) rfl); (try have c7 := hI.cell (i := 7) rfl); skip
      go_wp2_with fail
      go_loopw [5, 25] (fun _ v wr => ∃ j : Nat, v = .int .i64 j ∧ j ≤ (x0 :: tl).length ∧ Inv w [.box gx 95 #[.int .i64 i.op, .int .i64 i.a, .int .i64 i.b, .int .i64 i.c], .box gt 9 (tableL.map Value.string).toArray, .obj gm (.map (lowM (List.foldl stepW st0 ((x0 :: tl).take j)).1 (List.foldl stepW st0 ((x0 :: tl).take j)).2.1 (List.foldl stepW st0 ((x0 :: tl).take j)).2.2) 3), .box gt2 9 (tableL.map Value.string).toArray, .box gp 9 pa] wr) (fun _ v _ => ((x0 :: tl).length - intOf v).toNat)
      case atStart => exact ⟨0, rfl, by omega, hI⟩
      case round =>
        clear hI
        obtain ⟨j, rfl, hj, hI⟩ := hrel
        generalize hst : List.foldl stepW st0 ((x0 :: tl).take j) = st at hI
        obtain ⟨sa, sb, sc⟩ := st
        dsimp only at hI
        have HST := Lib.hid hst
        clear hst
        rcases Nat.lt_or_ge j (x0 :: tl).length with hjl | hjg
        · obtain ⟨x, hx⟩ : ∃ x, (x0 :: tl)[j]? = some x := ⟨_, List.getElem?_eq_getElem hjl⟩
          have hki := HK.out x (List.mem_of_getElem? hx)
          have hnx := fold_next stepW st0 hx
          rw [HST.out] at hnx
          have HNX := Lib.hid hnx
          (try clear c0); (try clear c1); (try clear c2); (try clear c3); (try clear c4); (try clear c5); (try clear c6); (try clear c7); (try have c0 := hI.cell (i := 0) rfl); (try have c1 := hI.cell (i := 1) rfl); (try have c2 := hI.cell (i := 2) rfl); (try have c3 := hI.cell (i := 3) rfl); (try have c4 := hI.cell (i := 4) rfl); (try have c5 := hI.cell (i := 5) rfl); (try have c6 := hI.cell (i := 6) rfl); (try have c7 := hI.cell (i := 7) rfl); skip
          have hcx : pa[1 + j]? = some (.string x) := HPX.out j x hx
          have hjl' : j < tl.length + 1 := hjl
          have hjz : decide ((j : Int) < (tl.length : Int) + 1) = true := by simp; omega
          clear hjl
          clear hx hnx
          rcases hki with rfl | rfl | rfl | rfl | rfl | rfl | rfl
          · go_wp2_with (first | (refine listI rfl fun K hK => wpI_mapOld _ _ _ _ rfl Tryz.underlying238 Tryz.underlying9 hI rfl 2 rfl rfl rfl (find_A _ _ _) rfl (mod_A _ _ _ _ _) fun w' hI' => hK _ _ ?_; clear hK K; (try clear hb); clear hI; have hI := hI'; clear hI'; (try simp only [mm, Act.put, Act.eval] at hI); (try clear c0); (try clear c1); (try clear c2); (try clear c3); (try clear c4); (try clear c5); (try clear c6); (try clear c7); (try have c0 := hI.cell (i := 0) rfl); (try have c1 := hI.cell (i := 1) rfl); (try have c2 := hI.cell (i := 2) rfl); (try have c3 := hI.cell (i := 3) rfl); (try have c4 := hI.cell (i := 4) rfl); (try have c5 := hI.cell (i := 5) rfl); (try have c6 := hI.cell (i := 6) rfl); (try have c7 := hI.cell (i := 7) rfl); skip) | fail)
            go_roundw
            case rel =>
              (repeat apply Exists.intro)
              refine ⟨⟨j + 1, ?_, ?_, ?_⟩, rfl⟩
              · go_num
              · simp only [List.length_cons]; omega
              · rw [HNX.out]; exact hI.first [_, _, _, _, _] [] rfl
            case measure => simp [intOf]; omega
          · go_wp2_with (first | (refine listI rfl fun K hK => wpI_mapOld _ _ _ _ rfl Tryz.underlying238 Tryz.underlying9 hI rfl 2 rfl rfl rfl (find_B _ _ _) rfl (mod_B _ _ _ _ _) fun w' hI' => hK _ _ ?_; clear hK K; (try clear hb); clear hI; have hI := hI'; clear hI'; (try simp only [mm, Act.put, Act.eval] at hI); (try clear c0); (try clear c1); (try clear c2); (try clear c3); (try clear c4); (try clear c5); (try clear c6); (try clear c7); (try have c0 := hI.cell (i := 0) rfl); (try have c1 := hI.cell (i := 1) rfl); (try have c2 := hI.cell (i := 2) rfl); (try have c3 := hI.cell (i := 3) rfl); (try have c4 := hI.cell (i := 4) rfl); (try have c5 := hI.cell (i := 5) rfl); (try have c6 := hI.cell (i := 6) rfl); (try have c7 := hI.cell (i := 7) rfl); skip) | fail)
            go_roundw
            case rel =>
              (repeat apply Exists.intro)
              refine ⟨⟨j + 1, ?_, ?_, ?_⟩, rfl⟩
              · go_num
              · simp only [List.length_cons]; omega
              · rw [HNX.out]; exact hI.first [_, _, _, _, _] [] rfl
            case measure => simp [intOf]; omega
          · go_wp2_with (first | (refine listI rfl fun K hK => wpI_makeMap _ rfl hI fun gl w' hI' hb => hK _ _ ?_; clear hK K; (try clear hb); clear hI; have hI := hI'; clear hI'; (try simp only [mm, Act.put, Act.eval] at hI); (try clear c0); (try clear c1); (try clear c2); (try clear c3); (try clear c4); (try clear c5); (try clear c6); (try clear c7); (try have c0 := hI.cell (i := 0) rfl); (try have c1 := hI.cell (i := 1) rfl); (try have c2 := hI.cell (i := 2) rfl); (try have c3 := hI.cell (i := 3) rfl); (try have c4 := hI.cell (i := 4) rfl); (try have c5 := hI.cell (i := 5) rfl); (try have c6 := hI.cell (i := 6) rfl); (try have c7 := hI.cell (i := 7) rfl); skip) | (refine listI rfl fun K hK => wpI_insNew _ _ _ _ rfl Tryz.underlying238 Tryz.underlying9 hI rfl 5 rfl rfl rfl (by kernel_rfl) fun w' hI' => hK _ _ ?_; clear hK K; (try clear hb); clear hI; have hI := hI'; clear hI'; (try simp only [mm, Act.put, Act.eval] at hI); (try clear c0); (try clear c1); (try clear c2); (try clear c3); (try clear c4); (try clear c5); (try clear c6); (try clear c7); (try have c0 := hI.cell (i := 0) rfl); (try have c1 := hI.cell (i := 1) rfl); (try have c2 := hI.cell (i := 2) rfl); (try have c3 := hI.cell (i := 3) rfl); (try have c4 := hI.cell (i := 4) rfl); (try have c5 := hI.cell (i := 5) rfl); (try have c6 := hI.cell (i := 6) rfl); (try have c7 := hI.cell (i := 7) rfl); skip) | (refine listI rfl fun K hK => wpI_look _ _ _ rfl Tryz.underlying238 Tryz.underlying9 hI rfl 5 rfl (j := 0) (u := .agg #[.int .i64 (-2048), .int .i64 2047]) rfl (by kernel_rfl) (hK _ _ ?_); clear hK K) | (refine listI rfl fun K hK => wpI_mapOld _ _ _ _ rfl Tryz.underlying238 Tryz.underlying9 hI rfl 2 rfl rfl rfl (find_C _ _ _) rfl (mod_C _ _ _ _ _) fun w' hI' => hK _ _ ?_; clear hK K; (try clear hb); clear hI; have hI := hI'; clear hI'; (try simp only [mm, Act.put, Act.eval] at hI); (try clear c0); (try clear c1); (try clear c2); (try clear c3); (try clear c4); (try clear c5); (try clear c6); (try clear c7); (try have c0 := hI.cell (i := 0) rfl); (try have c1 := hI.cell (i := 1) rfl); (try have c2 := hI.cell (i := 2) rfl); (try have c3 := hI.cell (i := 3) rfl); (try have c4 := hI.cell (i := 4) rfl); (try have c5 := hI.cell (i := 5) rfl); (try have c6 := hI.cell (i := 6) rfl); (try have c7 := hI.cell (i := 7) rfl); skip) | fail)
            go_roundw
            case rel =>
              (repeat apply Exists.intro)
              refine ⟨⟨j + 1, ?_, ?_, ?_⟩, rfl⟩
              · go_num
              · simp only [List.length_cons]; omega
              · rw [HNX.out]; exact hI.first [_, _, _, _, _] [_] rfl
            case measure => simp [intOf]; omega
          · go_wp2_with (first | (refine listI rfl fun K hK => wpI_makeMap _ rfl hI fun gl w' hI' hb => hK _ _ ?_; clear hK K; (try clear hb); clear hI; have hI := hI'; clear hI'; (try simp only [mm, Act.put, Act.eval] at hI); (try clear c0); (try clear c1); (try clear c2); (try clear c3); (try clear c4); (try clear c5); (try clear c6); (try clear c7); (try have c0 := hI.cell (i := 0) rfl); (try have c1 := hI.cell (i := 1) rfl); (try have c2 := hI.cell (i := 2) rfl); (try have c3 := hI.cell (i := 3) rfl); (try have c4 := hI.cell (i := 4) rfl); (try have c5 := hI.cell (i := 5) rfl); (try have c6 := hI.cell (i := 6) rfl); (try have c7 := hI.cell (i := 7) rfl); skip) | (refine listI rfl fun K hK => wpI_insNew _ _ _ _ rfl Tryz.underlying238 Tryz.underlying9 hI rfl 5 rfl rfl rfl (by kernel_rfl) fun w' hI' => hK _ _ ?_; clear hK K; (try clear hb); clear hI; have hI := hI'; clear hI'; (try simp only [mm, Act.put, Act.eval] at hI); (try clear c0); (try clear c1); (try clear c2); (try clear c3); (try clear c4); (try clear c5); (try clear c6); (try clear c7); (try have c0 := hI.cell (i := 0) rfl); (try have c1 := hI.cell (i := 1) rfl); (try have c2 := hI.cell (i := 2) rfl); (try have c3 := hI.cell (i := 3) rfl); (try have c4 := hI.cell (i := 4) rfl); (try have c5 := hI.cell (i := 5) rfl); (try have c6 := hI.cell (i := 6) rfl); (try have c7 := hI.cell (i := 7) rfl); skip) | (refine listI rfl fun K hK => wpI_look _ _ _ rfl Tryz.underlying238 Tryz.underlying9 hI rfl 5 rfl (j := 1) (u := .agg #[.int .i64 0, .int .i64 7]) rfl (by kernel_rfl) (hK _ _ ?_); clear hK K) | (refine listI rfl fun K hK => wpI_mapOld _ _ _ _ rfl Tryz.underlying238 Tryz.underlying9 hI rfl 2 rfl rfl rfl (find_C _ _ _) rfl (mod_C _ _ _ _ _) fun w' hI' => hK _ _ ?_; clear hK K; (try clear hb); clear hI; have hI := hI'; clear hI'; (try simp only [mm, Act.put, Act.eval] at hI); (try clear c0); (try clear c1); (try clear c2); (try clear c3); (try clear c4); (try clear c5); (try clear c6); (try clear c7); (try have c0 := hI.cell (i := 0) rfl); (try have c1 := hI.cell (i := 1) rfl); (try have c2 := hI.cell (i := 2) rfl); (try have c3 := hI.cell (i := 3) rfl); (try have c4 := hI.cell (i := 4) rfl); (try have c5 := hI.cell (i := 5) rfl); (try have c6 := hI.cell (i := 6) rfl); (try have c7 := hI.cell (i := 7) rfl); skip) | fail)
            go_roundw
            case rel =>
              (repeat apply Exists.intro)
              refine ⟨⟨j + 1, ?_, ?_, ?_⟩, rfl⟩
              · go_num
              · simp only [List.length_cons]; omega
              · rw [HNX.out]; exact hI.first [_, _, _, _, _] [_] rfl
            case measure => simp [intOf]; omega
          · go_wp2_with (first | (refine listI rfl fun K hK => wpI_makeMap _ rfl hI fun gl w' hI' hb => hK _ _ ?_; clear hK K; (try clear hb); clear hI; have hI := hI'; clear hI'; (try simp only [mm, Act.put, Act.eval] at hI); (try clear c0); (try clear c1); (try clear c2); (try clear c3); (try clear c4); (try clear c5); (try clear c6); (try clear c7); (try have c0 := hI.cell (i := 0) rfl); (try have c1 := hI.cell (i := 1) rfl); (try have c2 := hI.cell (i := 2) rfl); (try have c3 := hI.cell (i := 3) rfl); (try have c4 := hI.cell (i := 4) rfl); (try have c5 := hI.cell (i := 5) rfl); (try have c6 := hI.cell (i := 6) rfl); (try have c7 := hI.cell (i := 7) rfl); skip) | (refine listI rfl fun K hK => wpI_insNew _ _ _ _ rfl Tryz.underlying238 Tryz.underlying9 hI rfl 5 rfl rfl rfl (by kernel_rfl) fun w' hI' => hK _ _ ?_; clear hK K; (try clear hb); clear hI; have hI := hI'; clear hI'; (try simp only [mm, Act.put, Act.eval] at hI); (try clear c0); (try clear c1); (try clear c2); (try clear c3); (try clear c4); (try clear c5); (try clear c6); (try clear c7); (try have c0 := hI.cell (i := 0) rfl); (try have c1 := hI.cell (i := 1) rfl); (try have c2 := hI.cell (i := 2) rfl); (try have c3 := hI.cell (i := 3) rfl); (try have c4 := hI.cell (i := 4) rfl); (try have c5 := hI.cell (i := 5) rfl); (try have c6 := hI.cell (i := 6) rfl); (try have c7 := hI.cell (i := 7) rfl); skip) | (refine listI rfl fun K hK => wpI_look _ _ _ rfl Tryz.underlying238 Tryz.underlying9 hI rfl 5 rfl (j := 2) (u := .agg #[.int .i64 0, .int .i64 127]) rfl (by kernel_rfl) (hK _ _ ?_); clear hK K) | (refine listI rfl fun K hK => wpI_mapOld _ _ _ _ rfl Tryz.underlying238 Tryz.underlying9 hI rfl 2 rfl rfl rfl (find_C _ _ _) rfl (mod_C _ _ _ _ _) fun w' hI' => hK _ _ ?_; clear hK K; (try clear hb); clear hI; have hI := hI'; clear hI'; (try simp only [mm, Act.put, Act.eval] at hI); (try clear c0); (try clear c1); (try clear c2); (try clear c3); (try clear c4); (try clear c5); (try clear c6); (try clear c7); (try have c0 := hI.cell (i := 0) rfl); (try have c1 := hI.cell (i := 1) rfl); (try have c2 := hI.cell (i := 2) rfl); (try have c3 := hI.cell (i := 3) rfl); (try have c4 := hI.cell (i := 4) rfl); (try have c5 := hI.cell (i := 5) rfl); (try have c6 := hI.cell (i := 6) rfl); (try have c7 := hI.cell (i := 7) rfl); skip) | fail)
            go_roundw
            case rel =>
              (repeat apply Exists.intro)
              refine ⟨⟨j + 1, ?_, ?_, ?_⟩, rfl⟩
              · go_num
              · simp only [List.length_cons]; omega
              · rw [HNX.out]; exact hI.first [_, _, _, _, _] [_] rfl
            case measure => simp [intOf]; omega
          · go_wp2_with (first | (refine listI rfl fun K hK => wpI_makeMap _ rfl hI fun gl w' hI' hb => hK _ _ ?_; clear hK K; (try clear hb); clear hI; have hI := hI'; clear hI'; (try simp only [mm, Act.put, Act.eval] at hI); (try clear c0); (try clear c1); (try clear c2); (try clear c3); (try clear c4); (try clear c5); (try clear c6); (try clear c7); (try have c0 := hI.cell (i := 0) rfl); (try have c1 := hI.cell (i := 1) rfl); (try have c2 := hI.cell (i := 2) rfl); (try have c3 := hI.cell (i := 3) rfl); (try have c4 := hI.cell (i := 4) rfl); (try have c5 := hI.cell (i := 5) rfl); (try have c6 := hI.cell (i := 6) rfl); (try have c7 := hI.cell (i := 7) rfl); skip) | (refine listI rfl fun K hK => wpI_insNew _ _ _ _ rfl Tryz.underlying238 Tryz.underlying9 hI rfl 5 rfl rfl rfl (by kernel_rfl) fun w' hI' => hK _ _ ?_; clear hK K; (try clear hb); clear hI; have hI := hI'; clear hI'; (try simp only [mm, Act.put, Act.eval] at hI); (try clear c0); (try clear c1); (try clear c2); (try clear c3); (try clear c4); (try clear c5); (try clear c6); (try clear c7); (try have c0 := hI.cell (i := 0) rfl); (try have c1 := hI.cell (i := 1) rfl); (try have c2 := hI.cell (i := 2) rfl); (try have c3 := hI.cell (i := 3) rfl); (try have c4 := hI.cell (i := 4) rfl); (try have c5 := hI.cell (i := 5) rfl); (try have c6 := hI.cell (i := 6) rfl); (try have c7 := hI.cell (i := 7) rfl); skip) | (refine listI rfl fun K hK => wpI_look _ _ _ rfl Tryz.underlying238 Tryz.underlying9 hI rfl 5 rfl (j := 3) (u := .agg #[.int .i64 0, .int .i64 5]) rfl (by kernel_rfl) (hK _ _ ?_); clear hK K) | (refine listI rfl fun K hK => wpI_mapOld _ _ _ _ rfl Tryz.underlying238 Tryz.underlying9 hI rfl 2 rfl rfl rfl (find_C _ _ _) rfl (mod_C _ _ _ _ _) fun w' hI' => hK _ _ ?_; clear hK K; (try clear hb); clear hI; have hI := hI'; clear hI'; (try simp only [mm, Act.put, Act.eval] at hI); (try clear c0); (try clear c1); (try clear c2); (try clear c3); (try clear c4); (try clear c5); (try clear c6); (try clear c7); (try have c0 := hI.cell (i := 0) rfl); (try have c1 := hI.cell (i := 1) rfl); (try have c2 := hI.cell (i := 2) rfl); (try have c3 := hI.cell (i := 3) rfl); (try have c4 := hI.cell (i := 4) rfl); (try have c5 := hI.cell (i := 5) rfl); (try have c6 := hI.cell (i := 6) rfl); (try have c7 := hI.cell (i := 7) rfl); skip) | fail)
            go_roundw
            case rel =>
              (repeat apply Exists.intro)
              refine ⟨⟨j + 1, ?_, ?_, ?_⟩, rfl⟩
              · go_num
              · simp only [List.length_cons]; omega
              · rw [HNX.out]; exact hI.first [_, _, _, _, _] [_] rfl
            case measure => simp [intOf]; omega
          · go_wp2_with (first | (refine listI rfl fun K hK => wpI_makeMap _ rfl hI fun gl w' hI' hb => hK _ _ ?_; clear hK K; (try clear hb); clear hI; have hI := hI'; clear hI'; (try simp only [mm, Act.put, Act.eval] at hI); (try clear c0); (try clear c1); (try clear c2); (try clear c3); (try clear c4); (try clear c5); (try clear c6); (try clear c7); (try have c0 := hI.cell (i := 0) rfl); (try have c1 := hI.cell (i := 1) rfl); (try have c2 := hI.cell (i := 2) rfl); (try have c3 := hI.cell (i := 3) rfl); (try have c4 := hI.cell (i := 4) rfl); (try have c5 := hI.cell (i := 5) rfl); (try have c6 := hI.cell (i := 6) rfl); (try have c7 := hI.cell (i := 7) rfl); skip) | (refine listI rfl fun K hK => wpI_insNew _ _ _ _ rfl Tryz.underlying238 Tryz.underlying9 hI rfl 5 rfl rfl rfl (by kernel_rfl) fun w' hI' => hK _ _ ?_; clear hK K; (try clear hb); clear hI; have hI := hI'; clear hI'; (try simp only [mm, Act.put, Act.eval] at hI); (try clear c0); (try clear c1); (try clear c2); (try clear c3); (try clear c4); (try clear c5); (try clear c6); (try clear c7); (try have c0 := hI.cell (i := 0) rfl); (try have c1 := hI.cell (i := 1) rfl); (try have c2 := hI.cell (i := 2) rfl); (try have c3 := hI.cell (i := 3) rfl); (try have c4 := hI.cell (i := 4) rfl); (try have c5 := hI.cell (i := 5) rfl); (try have c6 := hI.cell (i := 6) rfl); (try have c7 := hI.cell (i := 7) rfl); skip) | (refine listI rfl fun K hK => wpI_look _ _ _ rfl Tryz.underlying238 Tryz.underlying9 hI rfl 5 rfl (j := 4) (u := .agg #[.int .i64 0, .int .i64 255]) rfl (by kernel_rfl) (hK _ _ ?_); clear hK K) | (refine listI rfl fun K hK => wpI_mapOld _ _ _ _ rfl Tryz.underlying238 Tryz.underlying9 hI rfl 2 rfl rfl rfl (find_C _ _ _) rfl (mod_C _ _ _ _ _) fun w' hI' => hK _ _ ?_; clear hK K; (try clear hb); clear hI; have hI := hI'; clear hI'; (try simp only [mm, Act.put, Act.eval] at hI); (try clear c0); (try clear c1); (try clear c2); (try clear c3); (try clear c4); (try clear c5); (try clear c6); (try clear c7); (try have c0 := hI.cell (i := 0) rfl); (try have c1 := hI.cell (i := 1) rfl); (try have c2 := hI.cell (i := 2) rfl); (try have c3 := hI.cell (i := 3) rfl); (try have c4 := hI.cell (i := 4) rfl); (try have c5 := hI.cell (i := 5) rfl); (try have c6 := hI.cell (i := 6) rfl); (try have c7 := hI.cell (i := 7) rfl); skip) | fail)
            go_roundw
            case rel =>
              (repeat apply Exists.intro)
              refine ⟨⟨j + 1, ?_, ?_, ?_⟩, rfl⟩
              · go_num
              · simp only [List.length_cons]; omega
              · rw [HNX.out]; exact hI.first [_, _, _, _, _] [_] rfl
            case measure => simp [intOf]; omega
        · have hjj : j = (x0 :: tl).length := by omega
          subst hjj
          have hres := instE_st HKN.out hk23 (HST.out.symm.trans ((by rw [List.take_length]; rfl : List.foldl stepW st0 ((x0 :: tl).take (x0 :: tl).length) = List.foldl stepW st0 (hd :: (x0 :: tl)).tail).trans HSH.out))
          dsimp only at hres
          have hi0 := idx0
          have hi1 := idx1
          (try clear c0); (try clear c1); (try clear c2); (try clear c3); (try clear c4); (try clear c5); (try clear c6); (try clear c7); (try have c0 := hI.cell (i := 0) rfl); (try have c1 := hI.cell (i := 1) rfl); (try have c2 := hI.cell (i := 2) rfl); (try have c3 := hI.cell (i := 3) rfl); (try have c4 := hI.cell (i := 4) rfl); (try have c5 := hI.cell (i := 5) rfl); (try have c6 := hI.cell (i := 6) rfl); (try have c7 := hI.cell (i := 7) rfl); skip
          have hob : wr.heap[gm]? = some (.map (lowM sa sb sc) 3) := hI.ok 2 _ rfl
          have hlA := run_lookS (P := Tryz.prog) 238 Tryz.underlying238 Tryz.underlying9 hob (find_A sa sb sc)
          have hlB := run_lookS (P := Tryz.prog) 238 Tryz.underlying238 Tryz.underlying9 hob (find_B sa sb sc)
          have hlC := run_lookS (P := Tryz.prog) 238 Tryz.underlying238 Tryz.underlying9 hob (find_C sa sb sc)
          clear hob
          have HIN := Lib.hid (fun n lo hi w' => r_outside n lo hi w')
          cases h1 : inR i.a sa.1 sa.2
          · have HR := Lib.hid (hres.trans (if_neg (by rw [h1]; decide)))
            clear hres
            go_wp2_with (first | (go_at_call 39; (with_reducible refine (HIN.out _ _ _ _).mono ?_); rintro e w1 ⟨rfl, rfl⟩) | fail)
            go_returns
            exact Ret.int HR.out.symm hI.below
          · cases h2 : inR i.b sb.1 sb.2
            · have HR := Lib.hid ((hres.trans (if_pos h1)).trans (if_neg (by rw [h2]; decide)))
              clear hres
              go_wp2_with (first | (go_at_call 39; (with_reducible refine (HIN.out _ _ _ _).mono ?_); rintro e w1 ⟨rfl, rfl⟩) | fail)
              go_returns
              exact Ret.int HR.out.symm hI.below
            · cases h3 : inR i.c sc.1 sc.2
              · have HR := Lib.hid (((hres.trans (if_pos h1)).trans (if_pos h2)).trans (if_neg (by rw [h3]; decide)))
                clear hres
                go_wp2_with (first | (go_at_call 39; (with_reducible refine (HIN.out _ _ _ _).mono ?_); rintro e w1 ⟨rfl, rfl⟩) | fail)
                go_returns
                exact Ret.int HR.out.symm hI.below
              · have HR := Lib.hid (((hres.trans (if_pos h1)).trans (if_pos h2)).trans (if_pos h3))
                clear hres
                go_wp2_with (first | (go_at_call 39; (with_reducible refine (HIN.out _ _ _ _).mono ?_); rintro e w1 ⟨rfl, rfl⟩) | fail)
                go_returns
                exact Ret.int HR.out.symm hI.below
  · have hw22 : IntKind.i64.wrap 22 = 22 := by decide
    have ho : inR i.op 0 22 = false := inR_not.2 (by omega)
    have HR := Lib.hid (show instE i = 1 from instE_no (by unfold instOk; rw [ho]; rfl))
    go_enter Tryz.func94, Tryz.ntmps94
    have hI := Inv.start w
    go_wp2_with (first | (refine listI rfl fun K hK => wpI_box _ _ rfl hI rfl fun gx w' hI' hb => hK _ _ ?_; clear hK K; (try clear hb); clear hI; have hI := hI'; clear hI'; (try simp only [mm, Act.put, Act.eval] at hI); (try clear c0); (try clear c1); (try clear c2); (try clear c3); (try clear c4); (try clear c5); (try clear c6); (try clear c7); (try have c0 := hI.cell (i := 0) rfl); (try have c1 := hI.cell (i := 1) rfl); (try have c2 := hI.cell (i := 2) rfl); (try have c3 := hI.cell (i := 3) rfl); (try have c4 := hI.cell (i := 4) rfl); (try have c5 := hI.cell (i := 5) rfl); (try have c6 := hI.cell (i := 6) rfl); (try have c7 := hI.cell (i := 7) rfl); skip) | (refine listI rfl fun K hK => wpI_box1 _ _ rfl hI rfl rfl fun gx w' hI' hb => hK _ _ ?_; clear hK K; (try clear hb); clear hI; have hI := hI'; clear hI'; (try simp only [mm, Act.put, Act.eval] at hI); (try clear c0); (try clear c1); (try clear c2); (try clear c3); (try clear c4); (try clear c5); (try clear c6); (try clear c7); (try have c0 := hI.cell (i := 0) rfl); (try have c1 := hI.cell (i := 1) rfl); (try have c2 := hI.cell (i := 2) rfl); (try have c3 := hI.cell (i := 3) rfl); (try have c4 := hI.cell (i := 4) rfl); (try have c5 := hI.cell (i := 5) rfl); (try have c6 := hI.cell (i := 6) rfl); (try have c7 := hI.cell (i := 7) rfl); skip) | fail)
    (refine wp_region_K [0] (by kernel_rfl) hI fun w' hI' hHeld => ?_; (try clear hb); clear hI; have hI := hI'; clear hI'; (try simp only [mm, Act.put, Act.eval] at hI); (try clear c0); (try clear c1); (try clear c2); (try clear c3); (try clear c4); (try clear c5); (try clear c6); (try clear c7); (try have c0 := hI.cell (i := 0) rfl); (try have c1 := hI.cell (i := 1) rfl); (try have c2 := hI.cell (i := 2) rfl); (try have c3 := hI.cell (i := 3) rfl); (try have c4 := hI.cell (i := 4) rfl); (try have c5 := hI.cell (i := 5) rfl); (try have c6 := hI.cell (i := 6) rfl); (try have c7 := hI.cell (i := 7) rfl); skip)
    (refine tk 0 ?_; (try simp only [np, Act.put]))
    (refine tk 1 ?_; (try simp only [np, Act.put]))
    refine oneH (i := 2) (by kernel_rfl) rfl (fun K hK => ?_)
    (go_simp; refine (r_table hI hE).mono ?_; rintro e w' ⟨gt, rfl, hI'⟩; refine hK.out _ _ (hI'.held (by simp)) (fun hHeld => ?_); clear hK K; (try clear hb); clear hI; have hI := hI'; clear hI'; (try simp only [mm, Act.put, Act.eval] at hI); (try clear c0); (try clear c1); (try clear c2); (try clear c3); (try clear c4); (try clear c5); (try clear c6); (try clear c7); (try have c0 := hI.cell (i := 0) rfl); (try have c1 := hI.cell (i := 1) rfl); (try have c2 := hI.cell (i := 2) rfl); (try have c3 := hI.cell (i := 3) rfl); (try have c4 := hI.cell (i := 4) rfl); (try have c5 := hI.cell (i := 5) rfl); (try have c6 := hI.cell (i := 6) rfl); (try have c7 := hI.cell (i := 7) rfl); skip; (try simp only [Act.put, List.setIfInBounds_toArray, List.set_cons_zero, List.set_cons_succ]))
    (refine tk 3 ?_; (try simp only [np, Act.put]))
    (refine tk 4 ?_; (try simp only [np, Act.put]))
    refine oneH (i := 5) (by kernel_rfl) rfl (fun K hK => ?_)
    (go_simp; refine (r_out ho _).mono ?_; rintro e w' ⟨rfl, rfl⟩; have hI' := hI; refine hK.out _ _ (hI'.held (by simp)) (fun hHeld => ?_); clear hK K; (try clear hb); clear hI; have hI := hI'; clear hI'; (try simp only [mm, Act.put, Act.eval] at hI); (try clear c0); (try clear c1); (try clear c2); (try clear c3); (try clear c4); (try clear c5); (try clear c6); (try clear c7); (try have c0 := hI.cell (i := 0) rfl); (try have c1 := hI.cell (i := 1) rfl); (try have c2 := hI.cell (i := 2) rfl); (try have c3 := hI.cell (i := 3) rfl); (try have c4 := hI.cell (i := 4) rfl); (try have c5 := hI.cell (i := 5) rfl); (try have c6 := hI.cell (i := 6) rfl); (try have c7 := hI.cell (i := 7) rfl); skip; (try simp only [Act.put, List.setIfInBounds_toArray, List.set_cons_zero, List.set_cons_succ]))
    refine wpAnyH_done (by kernel_rfl) ?_ _
    clear hHeld
    go_wp2_with fail
    go_returns
    exact Ret.int HR.out.symm hI.below
set_option maxHeartbeats 1000000 in
theorem r_InstPack (i : Inst) (w : World) (hE : Env w) : Calls Tryz.prog 40 #[.agg #[.int .i64 i.op, .int .i64 i.a, .int .i64 i.b, .int .i64 i.c]] w (Ret (.tuple #[.int .i64 (packF i).1, .int .i64 (packF i).2]) w) := by
  cases hok : instOk i
  · rw [pack_no hok]
    have hC := Lib.hid (fun w' h => instE_no hok ▸ r_InstCheck i w' h)
    clear hok
    go_enter Tryz.func40, Tryz.ntmps40
    have hI := Inv.start w
    go_wp2_with (first | (refine listI rfl fun K hK => wpI_box _ _ rfl hI rfl fun gx w' hI' hb => hK _ _ ?_; clear hK K; (try clear hb); clear hI; have hI := hI'; clear hI'; (try simp only [mm, Act.put, Act.eval] at hI); (try clear c0); (try clear c1); (try clear c2); (try clear c3); (try clear c4); (try clear c5); (try clear c6); (try clear c7); (try have c0 := hI.cell (i := 0) rfl); (try have c1 := hI.cell (i := 1) rfl); (try have c2 := hI.cell (i := 2) rfl); (try have c3 := hI.cell (i := 3) rfl); (try have c4 := hI.cell (i := 4) rfl); (try have c5 := hI.cell (i := 5) rfl); (try have c6 := hI.cell (i := 6) rfl); (try have c7 := hI.cell (i := 7) rfl); skip) | (refine listI rfl fun K hK => wpI_box1 _ _ rfl hI rfl rfl fun gx w' hI' hb => hK _ _ ?_; clear hK K; (try clear hb); clear hI; have hI := hI'; clear hI'; (try simp only [mm, Act.put, Act.eval] at hI); (try clear c0); (try clear c1); (try clear c2); (try clear c3); (try clear c4); (try clear c5); (try clear c6); (try clear c7); (try have c0 := hI.cell (i := 0) rfl); (try have c1 := hI.cell (i := 1) rfl); (try have c2 := hI.cell (i := 2) rfl); (try have c3 := hI.cell (i := 3) rfl); (try have c4 := hI.cell (i := 4) rfl); (try have c5 := hI.cell (i := 5) rfl); (try have c6 := hI.cell (i := 6) rfl); (try have c7 := hI.cell (i := 7) rfl); skip) | (go_at_call 94; (with_reducible refine (hC.out _ (hE.inv hI)).mono ?_); intro e w' hr; obtain ⟨rfl, hb⟩ := hr; have hI' := hI.on hb; (try clear hb); clear hI; have hI := hI'; clear hI'; (try simp only [mm, Act.put, Act.eval] at hI); (try clear c0); (try clear c1); (try clear c2); (try clear c3); (try clear c4); (try clear c5); (try clear c6); (try clear c7); (try have c0 := hI.cell (i := 0) rfl); (try have c1 := hI.cell (i := 1) rfl); (try have c2 := hI.cell (i := 2) rfl); (try have c3 := hI.cell (i := 3) rfl); (try have c4 := hI.cell (i := 4) rfl); (try have c5 := hI.cell (i := 5) rfl); (try have c6 := hI.cell (i := 6) rfl); (try have c7 := hI.cell (i := 7) rfl); skip) | fail)
    go_returns
    exact Ret.mk rfl hI.below
  · rw [pack_ok hok]
    have hC := Lib.hid (fun w' h => instE_ok hok ▸ r_InstCheck i w' h)
    have hO := Lib.hid hok
    clear hok
    go_enter Tryz.func40, Tryz.ntmps40
    have hI := Inv.start w
    go_wp2_with (first | (refine listI rfl fun K hK => wpI_box _ _ rfl hI rfl fun gx w' hI' hb => hK _ _ ?_; clear hK K; (try clear hb); clear hI; have hI := hI'; clear hI'; (try simp only [mm, Act.put, Act.eval] at hI); (try clear c0); (try clear c1); (try clear c2); (try clear c3); (try clear c4); (try clear c5); (try clear c6); (try clear c7); (try have c0 := hI.cell (i := 0) rfl); (try have c1 := hI.cell (i := 1) rfl); (try have c2 := hI.cell (i := 2) rfl); (try have c3 := hI.cell (i := 3) rfl); (try have c4 := hI.cell (i := 4) rfl); (try have c5 := hI.cell (i := 5) rfl); (try have c6 := hI.cell (i := 6) rfl); (try have c7 := hI.cell (i := 7) rfl); skip) | (refine listI rfl fun K hK => wpI_box1 _ _ rfl hI rfl rfl fun gx w' hI' hb => hK _ _ ?_; clear hK K; (try clear hb); clear hI; have hI := hI'; clear hI'; (try simp only [mm, Act.put, Act.eval] at hI); (try clear c0); (try clear c1); (try clear c2); (try clear c3); (try clear c4); (try clear c5); (try clear c6); (try clear c7); (try have c0 := hI.cell (i := 0) rfl); (try have c1 := hI.cell (i := 1) rfl); (try have c2 := hI.cell (i := 2) rfl); (try have c3 := hI.cell (i := 3) rfl); (try have c4 := hI.cell (i := 4) rfl); (try have c5 := hI.cell (i := 5) rfl); (try have c6 := hI.cell (i := 6) rfl); (try have c7 := hI.cell (i := 7) rfl); skip) | (go_at_call 94; (with_reducible refine (hC.out _ (hE.inv hI)).mono ?_); intro e w' hr; obtain ⟨rfl, hb⟩ := hr; have hI' := hI.on hb; (try clear hb); clear hI; have hI := hI'; clear hI'; (try simp only [mm, Act.put, Act.eval] at hI); (try clear c0); (try clear c1); (try clear c2); (try clear c3); (try clear c4); (try clear c5); (try clear c6); (try clear c7); (try have c0 := hI.cell (i := 0) rfl); (try have c1 := hI.cell (i := 1) rfl); (try have c2 := hI.cell (i := 2) rfl); (try have c3 := hI.cell (i := 3) rfl); (try have c4 := hI.cell (i := 4) rfl); (try have c5 := hI.cell (i := 5) rfl); (try have c6 := hI.cell (i := 6) rfl); (try have c7 := hI.cell (i := 7) rfl); skip) | fail)
    obtain ⟨h1, h2, h3, h4⟩ := instOk_in hO.out
    go_returns
    refine Ret.mk ?_ hI.below
    rw [w64 (x := 32 * i.a) (by omega), w64 (x := 256 * i.b) (by omega), w64 (x := i.c + 2048) (by omega), w64 (x := 2048 * (i.c + 2048)) (by omega), w64 (x := i.op + 32 * i.a) (by omega), w64 (x := i.op + 32 * i.a + 256 * i.b) (by omega), w64 (x := i.op + 32 * i.a + 256 * i.b + 2048 * (i.c + 2048)) (by omega), Int.mul_comm 32, Int.mul_comm 256, Int.mul_comm 2048]
    rfl
end Go.Proofs.YtbkjhdohkdeniaaGreatDoor
