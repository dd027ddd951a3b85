/- What the parts say: The contract of the reference's InstText: the text of an instruction, as plain data tells it. Conditions: the library's variables hold what they were laid with. -/
import Derived.Test.YtbkjhdohkdeniaaGreatDoorP30
import Derived.Test.YtbkjhdohkdeniaaGreatDoorP23
import Derived.Test.YtbkjhdohkdeniaaGreatDoorP15
set_option linter.unusedVariables false
set_option linter.unusedSimpArgs false
namespace Go.Proofs.YtbkjhdohkdeniaaGreatDoor
open Go.RowKit
set_option maxRecDepth 100000
def fillT (i : Inst) (x : ByteArray) : List UInt8 := if x.data.toList = [65] then regT i.a else if x.data.toList = [66] then regT i.b else if x.data.toList = [114] then regT i.c else Lib.itoa i.c
def mixC (i : Inst) (hd : ByteArray) (ts : List ByteArray) (j : Nat) : Array Value := (.string hd :: ((ts.take j).map (fun x => Value.string (str (fillT i x))) ++ (ts.drop j).map Value.string)).toArray
theorem mixC_zero (i : Inst) (hd : ByteArray) (ts : List ByteArray) : mixC i hd ts 0 = ((hd :: ts).map Value.string).toArray := by simp [mixC]
theorem mixC_size (i : Inst) (hd : ByteArray) (ts : List ByteArray) {j : Nat} (hj : j ≤ ts.length) : (mixC i hd ts j).size = ts.length + 1 := by simp [mixC]; omega
theorem mixC_at (i : Inst) (hd : ByteArray) {ts : List ByteArray} {j : Nat} {x : ByteArray} (h : ts[j]? = some x) : (mixC i hd ts j)[1 + j]? = some (.string x) := by
  have hj := (List.getElem?_eq_some_iff.1 h).1
  unfold mixC
  rw [List.getElem?_toArray, Nat.add_comm 1 j, List.getElem?_cons_succ, List.getElem?_append_right (by simp; omega), List.length_map, List.length_take, show j - min j ts.length = 0 by omega, List.getElem?_map, List.getElem?_drop, Nat.add_zero, h]
  rfl
theorem mixC_set (i : Inst) (hd : ByteArray) {ts : List ByteArray} {j : Nat} {x : ByteArray} (h : ts[j]? = some x) : (mixC i hd ts j).setIfInBounds (j + 1) (.string (str (fillT i x))) = mixC i hd ts (j + 1) := by
  obtain ⟨hj, hx⟩ := List.getElem?_eq_some_iff.1 h
  unfold mixC
  rw [List.setIfInBounds_toArray, List.set_cons_succ, List.set_append_right _ _ (by simp; omega), List.length_map, List.length_take, show j - min j ts.length = 0 by omega, List.drop_eq_getElem_cons hj, List.map_cons, List.set_cons_zero, List.take_add_one, h, List.map_append]
  simp
theorem mixC_end (i : Inst) (hd : ByteArray) (ts : List ByteArray) (n : Nat) (x : ByteArray) (h : (hd :: ts.map fun x => str (fillT i x))[n]? = some x) : (mixC i hd ts ts.length)[n]? = some (.string x) := by
  unfold mixC
  rw [List.take_length, List.drop_length, List.map_nil, List.append_nil, List.getElem?_toArray]
  cases n with
  | zero => simpa using h
  | succ n =>
    rw [List.getElem?_cons_succ] at h ⊢
    rw [List.getElem?_map] at h ⊢
    cases hn : ts[n]? with
    | none => rw [hn] at h; cases h
    | some y => rw [hn] at h; simp only [Option.map_some, Option.some.injEq] at h ⊢; rw [h]
def letters (h : Bool × Bool × Int) : List (List UInt8) := (if h.1 = true then [[65]] else []) ++ ((if h.2.1 = true then [[66]] else []) ++ (if h.2.2 = 0 then [] else [[UInt8.ofNat (cByte h.2.2).toNat]]))
theorem parts_letters (k : Nat) (hk : k < 23) (l : List ByteArray) (hl : partsL[k]? = some l) : l.map (·.data.toList) = (wordOf k).data.toList :: letters (shapeN k) := by
  have h : ((List.range 23).all fun k => match partsL[k]? with | none => true | some l => decide (l.map (·.data.toList) = (wordOf k).data.toList :: letters (shapeN k))) = true := by kernel_rfl
  have := List.all_eq_true.1 h k (List.mem_range.2 hk)
  rw [hl] at this
  exact of_decide_eq_true this
theorem fill_letters (i : Inst) (ts : List ByteArray) (sh : Bool × Bool × Int) (hc : 0 ≤ sh.2.2 ∧ sh.2.2 ≤ 5) (h : ts.map (·.data.toList) = letters sh) : ts.map (fillT i) = instTail sh i := by
  have e : ts.map (fillT i) = (ts.map (·.data.toList)).map fun x => if x = [65] then regT i.a else if x = [66] then regT i.b else if x = [114] then regT i.c else Lib.itoa i.c := by rw [List.map_map]; rfl
  rw [e, h]
  obtain ⟨s1, s2, s3⟩ := sh
  unfold letters instTail cText
  dsimp only at hc ⊢
  have : s3 = 0 ∨ s3 = 1 ∨ s3 = 2 ∨ s3 = 3 ∨ s3 = 4 ∨ s3 = 5 := by omega
  rcases this with rfl | rfl | rfl | rfl | rfl | rfl <;> cases s1 <;> cases s2 <;> rfl
theorem text_parts (i : Inst) (k : Nat) (hk : k < 23) (hi : i.op = k) (hd : ByteArray) (ts : List ByteArray) (hl : partsL[k]? = some (hd :: ts)) : Lib.join ((hd :: ts.map fun x => str (fillT i x)).map (·.data.toList)) [32] = instText i := by
  have h := parts_letters k hk _ hl
  rw [List.map_cons, List.cons.injEq] at h
  have h2 := fill_letters i ts (shapeN k) (shapeN_c _) h.2
  have e : (ts.map fun x => str (fillT i x)).map (·.data.toList) = ts.map (fillT i) := by
    rw [List.map_map]
    exact List.map_congr_left fun x _ => str_list _
  rw [List.map_cons, e, h2, h.1]
  unfold instText instWords
  rw [hi]
theorem reg_str (n : Int) : (⟨#[114]⟩ : ByteArray) ++ str (Lib.itoa n) = str (regT n) := by
  show str [114] ++ str (Lib.itoa n) = _
  rw [str_app]; rfl
theorem join_len (i : Inst) (k : Nat) (hk : k < 23) (hi : i.op = k) (ia : i64 i.a) (ib : i64 i.b) (ic : i64 i.c) : (instText i).length ≤ 200 := by
  have h1 := word_len (op := i.op) (by omega) (by omega)
  have e := text_eq i (wordOf i.op).data.toList (shapeN i.op)
  unfold instText instWords
  rw [e]
  simp only [List.length_append]
  have := addT_len ia (shapeN i.op).1 true
  have := addT_len ib (shapeN i.op).2.1 true
  have := addT_len ic (decide ((shapeN i.op).2.2 ≠ 0)) (decide ((shapeN i.op).2.2 = 2))
  omega
set_option maxHeartbeats 16000000 in
theorem r_InstText (i : Inst) (w : World) (hE : Env w) : Calls Tryz.prog 91 #[.agg #[.int .i64 i.op, .int .i64 i.a, .int .i64 i.b, .int .i64 i.c]] w (Ret (.tuple #[.string (str (textF i).1), .int .i64 (textF i).2]) w) := by
  cases hok : instOk i
  · rw [textF_no hok]
    have hC := Lib.hid (fun w' h => instE_no hok ▸ r_InstCheck i w' h)
    clear hok
    go_enter Tryz.func91, Tryz.ntmps91
    have hI := Inv.start w
    go_wp2_with (first | (refine listI rfl fun K hK => wpI_box _ _ rfl hI rfl fun gx w' hI' hb => hK _ _ ?_; clear hK K; (try clear hb); clear hI; have hI := hI'; clear hI'; (try simp only [mm, Act.put, Act.eval] at hI); (try clear c0); (try clear c1); (try clear c2); (try clear c3); (try clear c4); (try clear c5); (try have c0 := hI.cell (i := 0) rfl); (try have c1 := hI.cell (i := 1) rfl); (try have c2 := hI.cell (i := 2) rfl); (try have c3 := hI.cell (i := 3) rfl); (try have c4 := hI.cell (i := 4) rfl); (try have c5 := hI.cell (i := 5) rfl); skip) | (refine listI rfl fun K hK => wpI_box1 _ _ rfl hI rfl rfl fun gx w' hI' hb => hK _ _ ?_; clear hK K; (try clear hb); clear hI; have hI := hI'; clear hI'; (try simp only [mm, Act.put, Act.eval] at hI); (try clear c0); (try clear c1); (try clear c2); (try clear c3); (try clear c4); (try clear c5); (try have c0 := hI.cell (i := 0) rfl); (try have c1 := hI.cell (i := 1) rfl); (try have c2 := hI.cell (i := 2) rfl); (try have c3 := hI.cell (i := 3) rfl); (try have c4 := hI.cell (i := 4) rfl); (try have c5 := hI.cell (i := 5) rfl); skip) | (go_at_call 94; (with_reducible refine (hC.out _ (hE.inv hI)).mono ?_); intro e w' hr; obtain ⟨rfl, hb⟩ := hr; have hI' := hI.on hb; (try clear hb); clear hI; have hI := hI'; clear hI'; (try simp only [mm, Act.put, Act.eval] at hI); (try clear c0); (try clear c1); (try clear c2); (try clear c3); (try clear c4); (try clear c5); (try have c0 := hI.cell (i := 0) rfl); (try have c1 := hI.cell (i := 1) rfl); (try have c2 := hI.cell (i := 2) rfl); (try have c3 := hI.cell (i := 3) rfl); (try have c4 := hI.cell (i := 4) rfl); (try have c5 := hI.cell (i := 5) rfl); skip) | fail)
    go_returns
    exact Ret.mk rfl hI.below
  · rw [textF_ok hok]
    have hC := Lib.hid (fun w' h => instE_ok hok ▸ r_InstCheck i w' h)
    have hop := instOk_op hok
    obtain ⟨ho, ha, hb', hc'⟩ := instOk_in hok
    have ia := small64 (n := i.a) (by omega) (by omega)
    have ib := small64 (n := i.b) (by omega) (by omega)
    have ic := small64 (n := i.c) (by omega) (by omega)
    obtain ⟨k, hk⟩ : ∃ k : Nat, i.op = k := ⟨i.op.toNat, by omega⟩
    have hk23 : k < 23 := by omega
    have htk : i.op.toNat = k := by omega
    obtain ⟨sr, hsr⟩ : ∃ s, tableL[k]? = some s := ⟨_, List.getElem?_eq_getElem hk23⟩
    obtain ⟨lr, hlr⟩ : ∃ l, partsL[k]? = some l := ⟨_, List.getElem?_eq_getElem hk23⟩
    obtain ⟨hd, tl, hlt, ht3, hkinds⟩ := words_kinds lr (List.mem_of_getElem? hlr)
    subst hlt
    have HT := Lib.hid (text_parts i k hk23 hk hd tl hlr)
    have HTL := Lib.hid (join_len i k hk23 hk ia ib ic)
    have HK := Lib.hid hkinds
    have hop0 : 0 ≤ i.op := hop.1
    have hop23 : i.op < 23 := by omega
    have hcell : (tableL.map Value.string).toArray[i.op.toNat]? = some (.string sr) := by rw [htk]; simp [hsr]
    have HDA := Lib.hid (r_Digits i.a ia)
    have HDB := Lib.hid (r_Digits i.b ib)
    have HDC := Lib.hid (r_Digits i.c ic)
    have hs1 := reg_str i.a
    have hs2 := reg_str i.b
    have hs3 := reg_str i.c
    have hz1 : ¬ 9223372036854775807 < 1 + (str (Lib.itoa i.a)).size := by rw [str_size]; have := itoa_len ia; omega
    have hz2 : ¬ 9223372036854775807 < 1 + (str (Lib.itoa i.b)).size := by rw [str_size]; have := itoa_len ib; omega
    have hz3 : ¬ 9223372036854775807 < 1 + (str (Lib.itoa i.c)).size := by rw [str_size]; have := itoa_len ic; omega
    clear hkinds hk hop htk hok ho ha hb' hc' ia ib ic
    go_enter Tryz.func91, Tryz.ntmps91
    have hI := Inv.start w
    go_wp2_with (first | (refine listI rfl fun K hK => wpI_box _ _ rfl hI rfl fun gx w' hI' hb => hK _ _ ?_; clear hK K; (try clear hb); clear hI; have hI := hI'; clear hI'; (try simp only [mm, Act.put, Act.eval] at hI); (try clear c0); (try clear c1); (try clear c2); (try clear c3); (try clear c4); (try clear c5); (try have c0 := hI.cell (i := 0) rfl); (try have c1 := hI.cell (i := 1) rfl); (try have c2 := hI.cell (i := 2) rfl); (try have c3 := hI.cell (i := 3) rfl); (try have c4 := hI.cell (i := 4) rfl); (try have c5 := hI.cell (i := 5) rfl); skip) | (refine listI rfl fun K hK => wpI_box1 _ _ rfl hI rfl rfl fun gx w' hI' hb => hK _ _ ?_; clear hK K; (try clear hb); clear hI; have hI := hI'; clear hI'; (try simp only [mm, Act.put, Act.eval] at hI); (try clear c0); (try clear c1); (try clear c2); (try clear c3); (try clear c4); (try clear c5); (try have c0 := hI.cell (i := 0) rfl); (try have c1 := hI.cell (i := 1) rfl); (try have c2 := hI.cell (i := 2) rfl); (try have c3 := hI.cell (i := 3) rfl); (try have c4 := hI.cell (i := 4) rfl); (try have c5 := hI.cell (i := 5) rfl); skip) | (go_at_call 94; (with_reducible refine (hC.out _ (hE.inv hI)).mono ?_); intro e w' hr; obtain ⟨rfl, hb⟩ := hr; have hI' := hI.on hb; (try clear hb); clear hI; have hI := hI'; clear hI'; (try simp only [mm, Act.put, Act.eval] at hI); (try clear c0); (try clear c1); (try clear c2); (try clear c3); (try clear c4); (try clear c5); (try have c0 := hI.cell (i := 0) rfl); (try have c1 := hI.cell (i := 1) rfl); (try have c2 := hI.cell (i := 2) rfl); (try have c3 := hI.cell (i := 3) rfl); (try have c4 := hI.cell (i := 4) rfl); (try have c5 := hI.cell (i := 5) rfl); skip) | fail)
    (refine wp_region_K [0] (by kernel_rfl) hI fun w' hI' hHeld => ?_; (try clear hb); clear hI; have hI := hI'; clear hI'; (try simp only [mm, Act.put, Act.eval] at hI); (try clear c0); (try clear c1); (try clear c2); (try clear c3); (try clear c4); (try clear c5); (try have c0 := hI.cell (i := 0) rfl); (try have c1 := hI.cell (i := 1) rfl); (try have c2 := hI.cell (i := 2) rfl); (try have c3 := hI.cell (i := 3) rfl); (try have c4 := hI.cell (i := 4) rfl); (try have c5 := hI.cell (i := 5) rfl); skip)
    (refine tk 1 ?_; (try simp only [np, Act.put]))
    (refine tk 2 ?_; (try simp only [np, Act.put]))
    refine oneH (i := 0) (by kernel_rfl) rfl (fun K hK => ?_)
    (go_simp; refine (r_table hI hE).mono ?_; rintro e w' ⟨gt2, rfl, hI'⟩; refine hK.out _ _ (hI'.held (by simp)) (fun hHeld => ?_); clear hK K; (try clear hb); clear hI; have hI := hI'; clear hI'; (try simp only [mm, Act.put, Act.eval] at hI); (try clear c0); (try clear c1); (try clear c2); (try clear c3); (try clear c4); (try clear c5); (try have c0 := hI.cell (i := 0) rfl); (try have c1 := hI.cell (i := 1) rfl); (try have c2 := hI.cell (i := 2) rfl); (try have c3 := hI.cell (i := 3) rfl); (try have c4 := hI.cell (i := 4) rfl); (try have c5 := hI.cell (i := 5) rfl); skip; (try simp only [Act.put, List.setIfInBounds_toArray, List.set_cons_zero, List.set_cons_succ]))
    (refine tk 3 ?_; (try simp only [np, Act.put]))
    have hc3 := (hI.cell (i := 1) rfl i.op.toNat).trans hcell
    refine oneH (i := 4) (by kernel_rfl) rfl (fun K hK => ?_)
    go_simp
    refine hK.out _ _ (hI.held (by simp)) (fun hHeld => ?_)
    clear hK K
    (try simp only [Act.put, List.setIfInBounds_toArray, List.set_cons_zero, List.set_cons_succ])
    refine oneH (i := 5) (by kernel_rfl) rfl (fun K hK => ?_)
    (go_simp; refine (c_parts hI hE k sr (hd :: tl) hsr hlr).mono ?_; rintro e w' ⟨gp, rfl, hI'⟩; refine hK.out _ _ (hI'.held (by simp)) (fun hHeld => ?_); clear hK K; (try clear hb); clear hI; have hI := hI'; clear hI'; (try simp only [mm, Act.put, Act.eval] at hI); (try clear c0); (try clear c1); (try clear c2); (try clear c3); (try clear c4); (try clear c5); (try have c0 := hI.cell (i := 0) rfl); (try have c1 := hI.cell (i := 1) rfl); (try have c2 := hI.cell (i := 2) rfl); (try have c3 := hI.cell (i := 3) rfl); (try have c4 := hI.cell (i := 4) rfl); (try have c5 := hI.cell (i := 5) rfl); skip; (try simp only [Act.put, List.setIfInBounds_toArray, List.set_cons_zero, List.set_cons_succ]))
    (refine tk 6 ?_; (try simp only [np, Act.put]))
    refine wpAnyH_done (by kernel_rfl) ?_ _
    clear hHeld hc3 hcell
    rw [← mixC_zero i hd tl] at hI
    rcases tl with _ | ⟨x0, tl⟩
    · have hle1 : (1 : Int) ≤ (([hd] : List ByteArray).length : Int) := by simp
      (try clear c0); (try clear c1); (try clear c2); (try clear c3); (try clear c4); (try clear c5); (try have c0 := hI.cell (i := 0) rfl); (try have c1 := hI.cell (i := 1) rfl); (try have c2 := hI.cell (i := 2) rfl); (try have c3 := hI.cell (i := 3) rfl); (try have c4 := hI.cell (i := 4) rfl); (try have c5 := hI.cell (i := 5) rfl); skip
      go_wp2_with fail
      go_loopw [6, 7, 22] (fun _ _ v wr => v = .int .i64 0 ∧ Inv w [.box gx 95 #[.int .i64 i.op, .int .i64 i.a, .int .i64 i.b, .int .i64 i.c], .box gt2 9 (tableL.map Value.string).toArray, .box gp 9 (mixC i hd [] 0)] wr) (fun _ _ _ _ => 0)
      case atStart => exact ⟨rfl, hI⟩
      case round =>
        clear hI
        obtain ⟨rfl, hI⟩ := hrel
        (try clear c0); (try clear c1); (try clear c2); (try clear c3); (try clear c4); (try clear c5); (try have c0 := hI.cell (i := 0) rfl); (try have c1 := hI.cell (i := 1) rfl); (try have c2 := hI.cell (i := 2) rfl); (try have c3 := hI.cell (i := 3) rfl); (try have c4 := hI.cell (i := 4) rfl); (try have c5 := hI.cell (i := 5) rfl); skip
        go_wp2_with (first | (go_at_call 85; (with_reducible refine (c_JoinBox hI 2 rfl (hd :: ([] : List ByteArray).map fun x => str (fillT i x)) (mixC_end i hd []) 32 (instText i) HT.out (by have := HTL.out; omega) (by simp <;> omega) _ _ (by simp) (by simp)).mono ?_); intro e w' hr; obtain ⟨rfl, hb⟩ := hr; have hI' := hI.on hb; (try clear hb); clear hI; have hI := hI'; clear hI'; (try simp only [mm, Act.put, Act.eval] at hI); (try clear c0); (try clear c1); (try clear c2); (try clear c3); (try clear c4); (try clear c5); (try have c0 := hI.cell (i := 0) rfl); (try have c1 := hI.cell (i := 1) rfl); (try have c2 := hI.cell (i := 2) rfl); (try have c3 := hI.cell (i := 3) rfl); (try have c4 := hI.cell (i := 4) rfl); (try have c5 := hI.cell (i := 5) rfl); skip) | fail)
        go_returns
        exact ⟨rfl, hI.below⟩
    · have hle1 : (1 : Int) ≤ (tl.length : Int) + 1 + 1 := by omega
      have ht4 : tl.length ≤ 3 := by simp at ht3; omega
      (try clear c0); (try clear c1); (try clear c2); (try clear c3); (try clear c4); (try clear c5); (try have c0 := hI.cell (i := 0) rfl); (try have c1 := hI.cell (i := 1) rfl); (try have c2 := hI.cell (i := 2) rfl); (try have c3 := hI.cell (i := 3) rfl); (try have c4 := hI.cell (i := 4) rfl); (try have c5 := hI.cell (i := 5) rfl); skip
      go_wp2_with fail
      go_loopw [6, 7, 22] (fun _ _ v wr => ∃ j : Nat, v = .int .i64 j ∧ j ≤ (x0 :: tl).length ∧ Inv w [.box gx 95 #[.int .i64 i.op, .int .i64 i.a, .int .i64 i.b, .int .i64 i.c], .box gt2 9 (tableL.map Value.string).toArray, .box gp 9 (mixC i hd (x0 :: tl) j)] wr) (fun _ _ v _ => ((x0 :: tl).length - intOf v).toNat)
      case atStart => exact ⟨0, rfl, by omega, hI⟩
      case round =>
        clear hI
        obtain ⟨j, rfl, hj, hI⟩ := hrel
        rcases Nat.lt_or_ge j (x0 :: tl).length with hjl | hjg
        · obtain ⟨x, hx⟩ : ∃ x, (x0 :: tl)[j]? = some x := ⟨_, List.getElem?_eq_getElem hjl⟩
          have hki := HK.out x (List.mem_of_getElem? hx)
          have hcx := mixC_at i hd hx
          have hsz := mixC_size i hd (x0 :: tl) hj
          have HSET := Lib.hid (mixC_set i hd hx)
          obtain ⟨pa, hpa⟩ : ∃ pa, mixC i hd (x0 :: tl) j = pa := ⟨_, rfl⟩
          rw [hpa] at hI hcx hsz HSET
          clear hpa
          have hjl' : j < tl.length + 1 := hjl
          have hjz : decide ((j : Int) < (tl.length : Int) + 1) = true := by simp; omega
          have hjz2 : (j : Int) + 1 < (tl.length : Int) + 1 + 1 := by omega
          have hjz3 : j + 1 < pa.size := by rw [hsz]; simp; omega
          have HSZ := Lib.hid hjz3
          clear hjl hx hsz hjz3
          (try clear c0); (try clear c1); (try clear c2); (try clear c3); (try clear c4); (try clear c5); (try have c0 := hI.cell (i := 0) rfl); (try have c1 := hI.cell (i := 1) rfl); (try have c2 := hI.cell (i := 2) rfl); (try have c3 := hI.cell (i := 3) rfl); (try have c4 := hI.cell (i := 4) rfl); (try have c5 := hI.cell (i := 5) rfl); skip
          rcases hki with rfl | rfl | rfl | rfl | rfl | rfl | rfl
          · go_wp2_with (first | (go_at_call 56; (with_reducible refine (HDA.out _).mono ?_); intro e w' hr; obtain ⟨rfl, hb⟩ := hr; have hI' := hI.on hb; (try clear hb); clear hI; have hI := hI'; clear hI'; (try simp only [mm, Act.put, Act.eval] at hI); (try clear c0); (try clear c1); (try clear c2); (try clear c3); (try clear c4); (try clear c5); (try have c0 := hI.cell (i := 0) rfl); (try have c1 := hI.cell (i := 1) rfl); (try have c2 := hI.cell (i := 2) rfl); (try have c3 := hI.cell (i := 3) rfl); (try have c4 := hI.cell (i := 4) rfl); (try have c5 := hI.cell (i := 5) rfl); skip) | (refine listI rfl fun K hK => wpI_store1 _ _ _ rfl hI rfl 2 rfl rfl rfl HSZ.out (by kernel_rfl) fun w' hI' => hK _ _ ?_; clear hK K; (try clear hb); clear hI; have hI := hI'; clear hI'; (try simp only [mm, Act.put, Act.eval] at hI); (try clear c0); (try clear c1); (try clear c2); (try clear c3); (try clear c4); (try clear c5); (try have c0 := hI.cell (i := 0) rfl); (try have c1 := hI.cell (i := 1) rfl); (try have c2 := hI.cell (i := 2) rfl); (try have c3 := hI.cell (i := 3) rfl); (try have c4 := hI.cell (i := 4) rfl); (try have c5 := hI.cell (i := 5) rfl); skip) | fail)
            go_roundw
            case rel =>
              (repeat apply Exists.intro)
              refine ⟨⟨j + 1, ?_, ?_, ?_⟩, rfl⟩
              · go_num
              · simp only [List.length_cons]; omega
              · rw [← HSET.out]; exact hI
            case measure => simp [intOf]; omega
          · go_wp2_with (first | (go_at_call 56; (with_reducible refine (HDB.out _).mono ?_); intro e w' hr; obtain ⟨rfl, hb⟩ := hr; have hI' := hI.on hb; (try clear hb); clear hI; have hI := hI'; clear hI'; (try simp only [mm, Act.put, Act.eval] at hI); (try clear c0); (try clear c1); (try clear c2); (try clear c3); (try clear c4); (try clear c5); (try have c0 := hI.cell (i := 0) rfl); (try have c1 := hI.cell (i := 1) rfl); (try have c2 := hI.cell (i := 2) rfl); (try have c3 := hI.cell (i := 3) rfl); (try have c4 := hI.cell (i := 4) rfl); (try have c5 := hI.cell (i := 5) rfl); skip) | (refine listI rfl fun K hK => wpI_store1 _ _ _ rfl hI rfl 2 rfl rfl rfl HSZ.out (by kernel_rfl) fun w' hI' => hK _ _ ?_; clear hK K; (try clear hb); clear hI; have hI := hI'; clear hI'; (try simp only [mm, Act.put, Act.eval] at hI); (try clear c0); (try clear c1); (try clear c2); (try clear c3); (try clear c4); (try clear c5); (try have c0 := hI.cell (i := 0) rfl); (try have c1 := hI.cell (i := 1) rfl); (try have c2 := hI.cell (i := 2) rfl); (try have c3 := hI.cell (i := 3) rfl); (try have c4 := hI.cell (i := 4) rfl); (try have c5 := hI.cell (i := 5) rfl); skip) | fail)
            go_roundw
            case rel =>
              (repeat apply Exists.intro)
              refine ⟨⟨j + 1, ?_, ?_, ?_⟩, rfl⟩
              · go_num
              · simp only [List.length_cons]; omega
              · rw [← HSET.out]; exact hI
            case measure => simp [intOf]; omega
          · go_wp2_with (first | (go_at_call 56; (with_reducible refine (HDC.out _).mono ?_); intro e w' hr; obtain ⟨rfl, hb⟩ := hr; have hI' := hI.on hb; (try clear hb); clear hI; have hI := hI'; clear hI'; (try simp only [mm, Act.put, Act.eval] at hI); (try clear c0); (try clear c1); (try clear c2); (try clear c3); (try clear c4); (try clear c5); (try have c0 := hI.cell (i := 0) rfl); (try have c1 := hI.cell (i := 1) rfl); (try have c2 := hI.cell (i := 2) rfl); (try have c3 := hI.cell (i := 3) rfl); (try have c4 := hI.cell (i := 4) rfl); (try have c5 := hI.cell (i := 5) rfl); skip) | (refine listI rfl fun K hK => wpI_store1 _ _ _ rfl hI rfl 2 rfl rfl rfl HSZ.out (by kernel_rfl) fun w' hI' => hK _ _ ?_; clear hK K; (try clear hb); clear hI; have hI := hI'; clear hI'; (try simp only [mm, Act.put, Act.eval] at hI); (try clear c0); (try clear c1); (try clear c2); (try clear c3); (try clear c4); (try clear c5); (try have c0 := hI.cell (i := 0) rfl); (try have c1 := hI.cell (i := 1) rfl); (try have c2 := hI.cell (i := 2) rfl); (try have c3 := hI.cell (i := 3) rfl); (try have c4 := hI.cell (i := 4) rfl); (try have c5 := hI.cell (i := 5) rfl); skip) | fail)
            go_roundw
            case rel =>
              (repeat apply Exists.intro)
              refine ⟨⟨j + 1, ?_, ?_, ?_⟩, rfl⟩
              · go_num
              · simp only [List.length_cons]; omega
              · rw [← HSET.out]; exact hI
            case measure => simp [intOf]; omega
          · go_wp2_with (first | (go_at_call 56; (with_reducible refine (HDC.out _).mono ?_); intro e w' hr; obtain ⟨rfl, hb⟩ := hr; have hI' := hI.on hb; (try clear hb); clear hI; have hI := hI'; clear hI'; (try simp only [mm, Act.put, Act.eval] at hI); (try clear c0); (try clear c1); (try clear c2); (try clear c3); (try clear c4); (try clear c5); (try have c0 := hI.cell (i := 0) rfl); (try have c1 := hI.cell (i := 1) rfl); (try have c2 := hI.cell (i := 2) rfl); (try have c3 := hI.cell (i := 3) rfl); (try have c4 := hI.cell (i := 4) rfl); (try have c5 := hI.cell (i := 5) rfl); skip) | (refine listI rfl fun K hK => wpI_store1 _ _ _ rfl hI rfl 2 rfl rfl rfl HSZ.out (by kernel_rfl) fun w' hI' => hK _ _ ?_; clear hK K; (try clear hb); clear hI; have hI := hI'; clear hI'; (try simp only [mm, Act.put, Act.eval] at hI); (try clear c0); (try clear c1); (try clear c2); (try clear c3); (try clear c4); (try clear c5); (try have c0 := hI.cell (i := 0) rfl); (try have c1 := hI.cell (i := 1) rfl); (try have c2 := hI.cell (i := 2) rfl); (try have c3 := hI.cell (i := 3) rfl); (try have c4 := hI.cell (i := 4) rfl); (try have c5 := hI.cell (i := 5) rfl); skip) | fail)
            go_roundw
            case rel =>
              (repeat apply Exists.intro)
              refine ⟨⟨j + 1, ?_, ?_, ?_⟩, rfl⟩
              · go_num
              · simp only [List.length_cons]; omega
              · rw [← HSET.out]; exact hI
            case measure => simp [intOf]; omega
          · go_wp2_with (first | (go_at_call 56; (with_reducible refine (HDC.out _).mono ?_); intro e w' hr; obtain ⟨rfl, hb⟩ := hr; have hI' := hI.on hb; (try clear hb); clear hI; have hI := hI'; clear hI'; (try simp only [mm, Act.put, Act.eval] at hI); (try clear c0); (try clear c1); (try clear c2); (try clear c3); (try clear c4); (try clear c5); (try have c0 := hI.cell (i := 0) rfl); (try have c1 := hI.cell (i := 1) rfl); (try have c2 := hI.cell (i := 2) rfl); (try have c3 := hI.cell (i := 3) rfl); (try have c4 := hI.cell (i := 4) rfl); (try have c5 := hI.cell (i := 5) rfl); skip) | (refine listI rfl fun K hK => wpI_store1 _ _ _ rfl hI rfl 2 rfl rfl rfl HSZ.out (by kernel_rfl) fun w' hI' => hK _ _ ?_; clear hK K; (try clear hb); clear hI; have hI := hI'; clear hI'; (try simp only [mm, Act.put, Act.eval] at hI); (try clear c0); (try clear c1); (try clear c2); (try clear c3); (try clear c4); (try clear c5); (try have c0 := hI.cell (i := 0) rfl); (try have c1 := hI.cell (i := 1) rfl); (try have c2 := hI.cell (i := 2) rfl); (try have c3 := hI.cell (i := 3) rfl); (try have c4 := hI.cell (i := 4) rfl); (try have c5 := hI.cell (i := 5) rfl); skip) | fail)
            go_roundw
            case rel =>
              (repeat apply Exists.intro)
              refine ⟨⟨j + 1, ?_, ?_, ?_⟩, rfl⟩
              · go_num
              · simp only [List.length_cons]; omega
              · rw [← HSET.out]; exact hI
            case measure => simp [intOf]; omega
          · go_wp2_with (first | (go_at_call 56; (with_reducible refine (HDC.out _).mono ?_); intro e w' hr; obtain ⟨rfl, hb⟩ := hr; have hI' := hI.on hb; (try clear hb); clear hI; have hI := hI'; clear hI'; (try simp only [mm, Act.put, Act.eval] at hI); (try clear c0); (try clear c1); (try clear c2); (try clear c3); (try clear c4); (try clear c5); (try have c0 := hI.cell (i := 0) rfl); (try have c1 := hI.cell (i := 1) rfl); (try have c2 := hI.cell (i := 2) rfl); (try have c3 := hI.cell (i := 3) rfl); (try have c4 := hI.cell (i := 4) rfl); (try have c5 := hI.cell (i := 5) rfl); skip) | (refine listI rfl fun K hK => wpI_store1 _ _ _ rfl hI rfl 2 rfl rfl rfl HSZ.out (by kernel_rfl) fun w' hI' => hK _ _ ?_; clear hK K; (try clear hb); clear hI; have hI := hI'; clear hI'; (try simp only [mm, Act.put, Act.eval] at hI); (try clear c0); (try clear c1); (try clear c2); (try clear c3); (try clear c4); (try clear c5); (try have c0 := hI.cell (i := 0) rfl); (try have c1 := hI.cell (i := 1) rfl); (try have c2 := hI.cell (i := 2) rfl); (try have c3 := hI.cell (i := 3) rfl); (try have c4 := hI.cell (i := 4) rfl); (try have c5 := hI.cell (i := 5) rfl); skip) | fail)
            go_roundw
            case rel =>
              (repeat apply Exists.intro)
              refine ⟨⟨j + 1, ?_, ?_, ?_⟩, rfl⟩
              · go_num
              · simp only [List.length_cons]; omega
              · rw [← HSET.out]; exact hI
            case measure => simp [intOf]; omega
          · go_wp2_with (first | (go_at_call 56; (with_reducible refine (HDC.out _).mono ?_); intro e w' hr; obtain ⟨rfl, hb⟩ := hr; have hI' := hI.on hb; (try clear hb); clear hI; have hI := hI'; clear hI'; (try simp only [mm, Act.put, Act.eval] at hI); (try clear c0); (try clear c1); (try clear c2); (try clear c3); (try clear c4); (try clear c5); (try have c0 := hI.cell (i := 0) rfl); (try have c1 := hI.cell (i := 1) rfl); (try have c2 := hI.cell (i := 2) rfl); (try have c3 := hI.cell (i := 3) rfl); (try have c4 := hI.cell (i := 4) rfl); (try have c5 := hI.cell (i := 5) rfl); skip) | (refine listI rfl fun K hK => wpI_store1 _ _ _ rfl hI rfl 2 rfl rfl rfl HSZ.out (by kernel_rfl) fun w' hI' => hK _ _ ?_; clear hK K; (try clear hb); clear hI; have hI := hI'; clear hI'; (try simp only [mm, Act.put, Act.eval] at hI); (try clear c0); (try clear c1); (try clear c2); (try clear c3); (try clear c4); (try clear c5); (try have c0 := hI.cell (i := 0) rfl); (try have c1 := hI.cell (i := 1) rfl); (try have c2 := hI.cell (i := 2) rfl); (try have c3 := hI.cell (i := 3) rfl); (try have c4 := hI.cell (i := 4) rfl); (try have c5 := hI.cell (i := 5) rfl); skip) | fail)
            go_roundw
            case rel =>
              (repeat apply Exists.intro)
              refine ⟨⟨j + 1, ?_, ?_, ?_⟩, rfl⟩
              · go_num
              · simp only [List.length_cons]; omega
              · rw [← HSET.out]; exact hI
            case measure => simp [intOf]; omega
        · obtain rfl : j = (x0 :: tl).length := by omega
          have hjz : decide (((x0 :: tl).length : Int) < (tl.length : Int) + 1) = false := by simp
          (try clear c0); (try clear c1); (try clear c2); (try clear c3); (try clear c4); (try clear c5); (try have c0 := hI.cell (i := 0) rfl); (try have c1 := hI.cell (i := 1) rfl); (try have c2 := hI.cell (i := 2) rfl); (try have c3 := hI.cell (i := 3) rfl); (try have c4 := hI.cell (i := 4) rfl); (try have c5 := hI.cell (i := 5) rfl); skip
          go_wp2_with (first | (go_at_call 85; (with_reducible refine (c_JoinBox hI 2 rfl (hd :: ((x0 :: tl) : List ByteArray).map fun x => str (fillT i x)) (mixC_end i hd (x0 :: tl)) 32 (instText i) HT.out (by have := HTL.out; omega) (by simp <;> omega) _ _ (by simp) (by simp)).mono ?_); intro e w' hr; obtain ⟨rfl, hb⟩ := hr; have hI' := hI.on hb; (try clear hb); clear hI; have hI := hI'; clear hI'; (try simp only [mm, Act.put, Act.eval] at hI); (try clear c0); (try clear c1); (try clear c2); (try clear c3); (try clear c4); (try clear c5); (try have c0 := hI.cell (i := 0) rfl); (try have c1 := hI.cell (i := 1) rfl); (try have c2 := hI.cell (i := 2) rfl); (try have c3 := hI.cell (i := 3) rfl); (try have c4 := hI.cell (i := 4) rfl); (try have c5 := hI.cell (i := 5) rfl); skip) | fail)
          go_returns
          exact ⟨rfl, hI.below⟩
end Go.Proofs.YtbkjhdohkdeniaaGreatDoor
