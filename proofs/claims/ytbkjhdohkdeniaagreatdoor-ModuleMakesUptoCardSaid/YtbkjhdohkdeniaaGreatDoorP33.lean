/- What the parts say: The reference's word and jumpTo: a line's number, a line's jump to a name, as plain data tells them. Conditions: the library's variables hold what they were laid with. -/
import Derived.Test.YtbkjhdohkdeniaaGreatDoorP32
import Derived.Test.YtbkjhdohkdeniaaGreatDoorP18
import Derived.Test.YtbkjhdohkdeniaaGreatDoorP20
import Derived.Test.YtbkjhdohkdeniaaGreatDoorP23
set_option linter.unusedVariables false
set_option linter.unusedSimpArgs false
namespace Go.Proofs.YtbkjhdohkdeniaaGreatDoor
open Go.RowKit
set_option maxRecDepth 100000
def wordV (s : List UInt8) : Int := if wordP.isPrefixOf s = true then numV (s.drop 5) else 0
def wordB (s : List UInt8) : Bool := wordP.isPrefixOf s && isWordN (s.drop 5)
theorem join_len_last (ps : List (List UInt8)) (x y : List UInt8) (c : UInt8) : (Lib.join (ps ++ [y]) [c]).length + x.length = (Lib.join (ps ++ [x]) [c]).length + y.length := by
  induction ps with
  | nil => rw [List.nil_append, List.nil_append, Lib.join_one, Lib.join_one]; omega
  | cons p ps ih =>
    have key : ∀ z, Lib.join (p :: (ps ++ [z])) [c] = p ++ ([c] ++ Lib.join (ps ++ [z]) [c]) := fun z => by
      obtain ⟨u, t, hut⟩ : ∃ u t, ps ++ [z] = u :: t := by cases ps with
        | nil => exact ⟨_, _, rfl⟩
        | cons a b => exact ⟨_, _, rfl⟩
      rw [hut, join_two]
    rw [List.cons_append, List.cons_append, key, key]
    simp only [List.length_append, List.length_cons, List.length_nil] at ih ⊢
    omega
theorem split_snoc (c : UInt8) (s : List UInt8) : ∃ ps x, splitL c s = ps ++ [x] := by
  obtain ⟨h, t, e⟩ := splitL_ne c s
  rw [e]
  exact ⟨(h :: t).dropLast, (h :: t).getLast (by simp), (List.dropLast_concat_getLast (by simp)).symm⟩
theorem strCells_snoc (ps : List (List UInt8)) (x y : List UInt8) : (strCells (ps ++ [x])).setIfInBounds ps.length (.string (str y)) = strCells (ps ++ [y]) := by
  unfold strCells
  rw [← Array.toList_inj, Array.toList_setIfInBounds]
  simp only [List.map_append, List.map_cons, List.map_nil]
  rw [show ps.length = (ps.map fun x => Value.string (str x)).length by rw [List.length_map], List.set_append_right _ _ (Nat.le_refl _), Nat.sub_self]
  rfl
theorem word_pre {s : List UInt8} (h : wordP.isPrefixOf s = true) : 5 ≤ s.length := by
  obtain ⟨r, rfl⟩ := List.isPrefixOf_iff_prefix.1 h
  rw [List.length_append]; show 5 ≤ 5 + _; omega
theorem extL (l : List UInt8) (a : Nat) : (str l).extract a l.length = str (l.drop a) := by
  apply WideShapes.bytes_inj
  simp [str, ByteArray.data_extract, List.take_drop]
  rcases Nat.lt_or_ge l.length a with h | h
  · rw [List.drop_eq_nil_of_le (Nat.le_of_lt h), List.drop_eq_nil_of_le (by rw [List.length_take]; omega)]
  · rw [show a + (l.length - a) = l.length by omega, List.take_length]
theorem r_word (s : List UInt8) (hs : s.length ≤ 4000000000) (w : World) : Calls Tryz.prog 34 #[.string (str s)] w (Ret (.tuple #[.int .i64 (wordV s), .bool (wordB s)]) w) := by
  have HH := Lib.hid (c_HasB s ⟨#[119, 111, 114, 100, 32]⟩)
  have hzs : (str s).size = s.length := str_size s
  have e : (⟨#[119, 111, 114, 100, 32]⟩ : ByteArray).data.toList = wordP := rfl
  rw [e] at HH
  clear e
  have hI := Inv.start w
  cases hp : wordP.isPrefixOf s
  · rw [hp] at HH
    have h0 : wordV s = 0 ∧ wordB s = false := by unfold wordV wordB; rw [hp]; exact ⟨rfl, rfl⟩
    rw [h0.1, h0.2]
    clear hp h0
    go_enter Tryz.func34, Tryz.ntmps34
    go_wp2_with (first | (go_at_call 86; (with_reducible refine (HH.out _).mono ?_); rintro e w1 ⟨rfl, rfl⟩) | fail)
    go_returns
    exact ⟨rfl, hI.below⟩
  · have h5 := word_pre hp
    rw [hp] at HH
    have h0 : wordV s = numV (s.drop 5) ∧ wordB s = numOk (s.drop 5) (-2147483648) 2147483647 := by unfold wordV wordB; rw [hp, (word_num _).1]; exact ⟨rfl, rfl⟩
    rw [h0.1, h0.2]
    have hex : (str s).extract 5 s.length = str (s.drop 5) := extL s 5
    have HN := Lib.hid (fun w => r_Numeral (s.drop 5) (-2147483648) 2147483647 w)
    clear hp h0
    have hb1 : (5 : Int) ≤ (s.length : Int) := by omega
    go_enter Tryz.func34, Tryz.ntmps34
    go_wp2_with (first | (go_at_call 86; (with_reducible refine (HH.out _).mono ?_); rintro e w1 ⟨rfl, rfl⟩) | (go_at_call 87; (with_reducible refine (HN.out _).mono ?_); intro e w' hr; obtain ⟨rfl, hb⟩ := hr; have hI' := hI.on hb; (try clear hb); clear hI; have hI := hI'; clear hI'; (try simp only [mm, Act.put, Act.eval] at hI); (try clear c0); (try clear c1); (try clear c2); (try clear c3); (try clear c4); (try clear c5); (try have c0 := hI.cell (i := 0) rfl); (try have c1 := hI.cell (i := 1) rfl); (try have c2 := hI.cell (i := 2) rfl); (try have c3 := hI.cell (i := 3) rfl); (try have c4 := hI.cell (i := 4) rfl); (try have c5 := hI.cell (i := 5) rfl); skip) | fail)
    go_returns
    exact ⟨rfl, hI.below⟩
theorem c_JoinB {w0 w : World} {rs : List Res} (hI : Inv w0 rs w) (n : Nat) {gp : Nat} {ls : List (List UInt8)} {t : TypeId} (hi : rs[n]? = some (.box gp t (strCells ls))) (b : UInt8) (hl : (Lib.join ls [b]).length ≤ 4000000000) (hN : ls.length ≤ 4000000000) (hne : ls ≠ []) :
    Calls Tryz.prog 85 #[.slice (some ⟨gp, 0, none⟩) ls.length ls.length, .string ⟨#[b]⟩] w (Ret (.string (str (Lib.join ls [b]))) w) := by
  have e : (ls.map str).map (·.data.toList) = ls := by
    rw [List.map_map]
    exact (List.map_congr_left fun x _ => str_list x).trans (List.map_id _)
  have h := Tryz.strings_Join gp 0 ls.length (ls.map str) ⟨#[b]⟩ w (fun k x h => by
    rw [Nat.zero_add]
    refine (hI.cell hi k).trans ?_
    rw [List.getElem?_map] at h
    cases hk : ls[k]? with
    | none => rw [hk] at h; cases h
    | some y => rw [hk] at h; obtain rfl : str y = x := Option.some.inj h; exact strCells_at hk) (hI.lt hi rfl) (by rw [List.length_map]; omega) (by rw [List.length_map]; exact Nat.le_refl _) (by show (Lib.join _ [b]).length ≤ _; rw [e]; omega)
  rw [List.length_map] at h
  refine h.mono ?_
  rintro e' w' ⟨rfl, hb⟩
  refine ⟨?_, hb⟩
  show Ending.returned (.string (str (Lib.join _ [b]))) = _
  rw [e]
theorem r_IsNameL (s : List UInt8) (w : World) : Calls Tryz.prog 37 #[.string (str s)] w (Ret (.bool (nameB s)) w) := str_list s ▸ r_IsName (str s) w
set_option maxHeartbeats 8000000 in
theorem r_jumpTo (s : List UInt8) (hs : s.length ≤ 1500000) (w : World) (hE : Env w) : Calls Tryz.prog 33 #[.string (str s)] w (Ret (.tuple #[.agg #[.int .i64 (jumpW (splitL 32 s)).1.op, .int .i64 (jumpW (splitL 32 s)).1.a, .int .i64 (jumpW (splitL 32 s)).1.b, .int .i64 (jumpW (splitL 32 s)).1.c], .string (str ((splitL 32 s).getLastD [])), .bool (isHole (splitL 32 s))]) w) := by
  have hI := Inv.start w
  have HS := Lib.hid (fun (w' : World) (rs : List Res) (hI : Inv w rs w') => c_SplitB hI hE 32 s (by omega))
  have hjs := join_splitL 32 s
  have hln := splitL_len 32 s
  have hcn := List.count_le_length (a := (32 : UInt8)) (l := s)
  obtain ⟨ps, x, hps⟩ := split_snoc 32 s
  rw [hps] at HS hjs hln ⊢
  have hjl := join_len_last ps x zeroT 32
  rw [hjs] at hjl
  have hz1 : zeroT.length = 1 := rfl
  have hpl : ps.length + 1 ≤ 1500001 := by rw [List.length_append, List.length_cons, List.length_nil] at hln; omega
  have hLD : (ps ++ [x]).getLastD [] = x := getLastD_snoc ps x []
  have hjw : jumpW (ps ++ [x]) = parseF (Lib.join (ps ++ [zeroT]) [32]) := by unfold jumpW; rw [List.dropLast_concat]
  have hih : isHole (ps ++ [x]) = (decide (1 < ps.length + 1) && (nameB x && (decide ((jumpW (ps ++ [x])).2 = 0) && (decide ((jumpW (ps ++ [x])).1.op = 8) || decide ((jumpW (ps ++ [x])).1.op = 9))))) := by
    unfold isHole; rw [hLD, List.length_append]; rfl
  rw [hLD]
  have HPS := Lib.hid (fun w h => hjw ▸ r_InstParse (Lib.join (ps ++ [zeroT]) [32]) (by omega) w h)
  have HNM := Lib.hid (fun w => r_IsNameL x w)
  have HJB := Lib.hid (fun (w' : World) (rs : List Res) (gl : Nat) (hI : Inv w rs w') (hi : rs[1]? = some (.box gl 9 (strCells (ps ++ [zeroT])))) => c_JoinB hI 1 hi 32 (by omega) (by rw [List.length_append, List.length_cons, List.length_nil]; omega) (by simp))
  have hsn := strCells_snoc ps x zeroT
  have hcx : (strCells (ps ++ [x]))[ps.length]? = some (.string (str x)) := strCells_at (by rw [List.getElem?_append_right (Nat.le_refl _), Nat.sub_self]; rfl)
  have hsz : ps.length < (strCells (ps ++ [x])).size := by rw [strCells_size, List.length_append, List.length_cons, List.length_nil]; omega
  obtain ⟨lc, hlc⟩ : ∃ lc, strCells (ps ++ [x]) = lc := ⟨_, rfl⟩
  have HLC := Lib.hid hlc
  rw [hlc] at hsn hcx hsz
  have HSZ := Lib.hid hsz
  have HJN := Lib.hid (fun (w' : World) (g2 gl : Nat) (z : Array Value) (hI : Inv w [.box g2 95 z, .box gl 9 (lc.setIfInBounds ps.length (.string ⟨#[48]⟩))] w') => HJB.out w' [.box g2 95 z, .box gl 9 (strCells (ps ++ [zeroT]))] gl (hsn ▸ hI) rfl)
  rw [List.length_append, List.length_cons, List.length_nil] at HS HJN
  rw [Nat.zero_add] at HS HJN
  generalize Lib.join (ps ++ [zeroT]) [32] = jt at *
  generalize jumpW (ps ++ [x]) = jw at *
  obtain ⟨⟨j1, j2, j3, j4⟩, je⟩ := jw
  dsimp only at hih HPS ⊢
  generalize isHole (ps ++ [x]) = ih at *
  generalize str jt = sj at *
  clear hlc hsn hsz HJB hjl hz1 hLD hjw hps hjs hcn hln hs
  have hm1 : ((ps.length : Int) + 1 - 1) = (ps.length : Int) := by omega
  have hm2 : (ps.length : Int) < (ps.length : Int) + 1 := by omega
  generalize ps.length = n at *
  rcases Nat.eq_zero_or_pos n with hn | hn
  · subst hn
    have HIH := Lib.hid (show ih = false from hih)
    have hg : decide ((1 : Int) < ((0 : Nat) : Int) + 1) = false := by decide
    clear hih
    go_enter Tryz.func33, Tryz.ntmps33
    go_wp2_with (first | (refine listI_var rfl rfl 95 rfl _ _ rfl hI Tryz.zeroValue95 (fun _ => rfl) (fun _ => rfl) (by first | rfl | (simp only [hsz1]; first | done | rfl | kernel_rfl) | (simp only [hsz2]; first | done | rfl | kernel_rfl) | (simp only [hsz]; first | done | rfl | kernel_rfl) | kernel_rfl) (by first | exact info_mach (by assumption) | (simp only [hsz1]; kernel_rfl) | (simp only [hsz2]; kernel_rfl) | (simp only [hsz]; kernel_rfl) | kernel_rfl) (by first | (simp [Value.oneCell']; done) | exact HO1.out | exact HO2.out) fun gx w' hI' hb => ?_; (try clear hb); clear hI; have hI := hI'; clear hI'; (try simp only [mm, Act.put, Act.eval] at hI); (try clear c0); (try clear c1); (try clear c2); (try clear c3); (try clear c4); (try clear c5); (try have c0 := hI.cell (i := 0) rfl); (try have c1 := hI.cell (i := 1) rfl); (try have c2 := hI.cell (i := 2) rfl); (try have c3 := hI.cell (i := 3) rfl); (try have c4 := hI.cell (i := 4) rfl); (try have c5 := hI.cell (i := 5) rfl); skip) | (refine listI rfl fun K hK => wpI_alloc 95 rfl hI Tryz.zeroValue95 (cs := #[.int .i64 instZ.op, .int .i64 instZ.a, .int .i64 instZ.b, .int .i64 instZ.c]) (by first | rfl | kernel_rfl) fun gx w' hI' hb => hK _ _ ?_; clear hK K; (try clear hb); clear hI; have hI := hI'; clear hI'; (try simp only [mm, Act.put, Act.eval] at hI); (try clear c0); (try clear c1); (try clear c2); (try clear c3); (try clear c4); (try clear c5); (try have c0 := hI.cell (i := 0) rfl); (try have c1 := hI.cell (i := 1) rfl); (try have c2 := hI.cell (i := 2) rfl); (try have c3 := hI.cell (i := 3) rfl); (try have c4 := hI.cell (i := 4) rfl); (try have c5 := hI.cell (i := 5) rfl); skip) | (go_at_call 29; refine (HS.out _ _ hI).mono ?_; rintro e w' ⟨gl, rfl, hI'⟩; simp only [List.cons_append, List.nil_append] at hI'; rw [HLC.out] at hI'; (try clear hb); clear hI; have hI := hI'; clear hI'; (try simp only [mm, Act.put, Act.eval] at hI); (try clear c0); (try clear c1); (try clear c2); (try clear c3); (try clear c4); (try clear c5); (try have c0 := hI.cell (i := 0) rfl); (try have c1 := hI.cell (i := 1) rfl); (try have c2 := hI.cell (i := 2) rfl); (try have c3 := hI.cell (i := 3) rfl); (try have c4 := hI.cell (i := 4) rfl); (try have c5 := hI.cell (i := 5) rfl); skip) | (refine listI rfl fun K hK => wpI_store1 _ _ _ rfl hI rfl 1 rfl rfl rfl HSZ.out (by kernel_rfl) fun w' hI' => hK _ _ ?_; clear hK K; (try clear hb); clear hI; have hI := hI'; clear hI'; (try simp only [mm, Act.put, Act.eval] at hI); (try clear c0); (try clear c1); (try clear c2); (try clear c3); (try clear c4); (try clear c5); (try have c0 := hI.cell (i := 0) rfl); (try have c1 := hI.cell (i := 1) rfl); (try have c2 := hI.cell (i := 2) rfl); (try have c3 := hI.cell (i := 3) rfl); (try have c4 := hI.cell (i := 4) rfl); (try have c5 := hI.cell (i := 5) rfl); skip) | (go_at_call 85; (with_reducible refine (HJN.out _ _ _ _ hI).mono ?_); intro e w' hr; obtain ⟨rfl, hb⟩ := hr; have hI' := hI.on hb; (try clear hb); clear hI; have hI := hI'; clear hI'; (try simp only [mm, Act.put, Act.eval] at hI); (try clear c0); (try clear c1); (try clear c2); (try clear c3); (try clear c4); (try clear c5); (try have c0 := hI.cell (i := 0) rfl); (try have c1 := hI.cell (i := 1) rfl); (try have c2 := hI.cell (i := 2) rfl); (try have c3 := hI.cell (i := 3) rfl); (try have c4 := hI.cell (i := 4) rfl); (try have c5 := hI.cell (i := 5) rfl); skip) | (go_at_call 35; (with_reducible refine (HPS.out _ (hE.inv hI)).mono ?_); intro e w' hr; obtain ⟨rfl, hb⟩ := hr; have hI' := hI.on hb; (try clear hb); clear hI; have hI := hI'; clear hI'; (try simp only [mm, Act.put, Act.eval] at hI); (try clear c0); (try clear c1); (try clear c2); (try clear c3); (try clear c4); (try clear c5); (try have c0 := hI.cell (i := 0) rfl); (try have c1 := hI.cell (i := 1) rfl); (try have c2 := hI.cell (i := 2) rfl); (try have c3 := hI.cell (i := 3) rfl); (try have c4 := hI.cell (i := 4) rfl); (try have c5 := hI.cell (i := 5) rfl); skip) | fail)
    (refine wp_region_K [2] (by kernel_rfl) hI fun w' hI' hHeld => ?_; (try clear hb); clear hI; have hI := hI'; clear hI'; (try simp only [mm, Act.put, Act.eval] at hI); (try clear c0); (try clear c1); (try clear c2); (try clear c3); (try clear c4); (try clear c5); (try have c0 := hI.cell (i := 0) rfl); (try have c1 := hI.cell (i := 1) rfl); (try have c2 := hI.cell (i := 2) rfl); (try have c3 := hI.cell (i := 3) rfl); (try have c4 := hI.cell (i := 4) rfl); (try have c5 := hI.cell (i := 5) rfl); skip)
    (refine tk 0 ?_; (try simp only [np, Act.put])); (refine tk 1 ?_; (try simp only [np, Act.put])); (refine tk 2 ?_; (try simp only [np, Act.put])); (refine tk 3 ?_; (try simp only [np, Act.put])); (refine tk 4 ?_; (try simp only [np, Act.put])); (refine tk 5 ?_; (try simp only [np, Act.put]))
    (refine takeHs (i := 6) rfl (by kernel_rfl) (by kernel_rfl) (by kernel_rfl) (fun _ _ _ _ h => h) (by rfl) (by first | assumption | exact hI.held (by simp)) ?_; (try simp only [Act.put, List.setIfInBounds_toArray, List.set_cons_zero, List.set_cons_succ]))
    (refine takeHs (i := 7) rfl (by kernel_rfl) (by kernel_rfl) (by kernel_rfl) (fun _ _ _ _ h => h) (by rfl) (by first | assumption | exact hI.held (by simp)) ?_; (try simp only [Act.put, List.setIfInBounds_toArray, List.set_cons_zero, List.set_cons_succ]))
    (refine tk 8 ?_; (try simp only [np, Act.put])); (refine tk 9 ?_; (try simp only [np, Act.put]))
    (refine takeHs (i := 10) rfl (by kernel_rfl) (by kernel_rfl) (by kernel_rfl) (fun _ _ _ _ h => h) (by rfl) (by first | assumption | exact hI.held (by simp)) ?_; (try simp only [Act.put, List.setIfInBounds_toArray, List.set_cons_zero, List.set_cons_succ]))
    (refine takeHs (i := 11) rfl (by kernel_rfl) (by kernel_rfl) (by kernel_rfl) (fun _ _ _ _ h => h) (by rfl) (by first | assumption | exact hI.held (by simp)) ?_; (try simp only [Act.put, List.setIfInBounds_toArray, List.set_cons_zero, List.set_cons_succ]))
    (refine tk 12 ?_; (try simp only [np, Act.put]))
    (refine tk 13 ?_; (try simp only [np, Act.put]))
    (refine takeHs (i := 14) rfl (by kernel_rfl) (by kernel_rfl) (by kernel_rfl) (fun _ _ _ _ h => h) (by rfl) (by first | assumption | exact hI.held (by simp)) ?_; (try simp only [Act.put, List.setIfInBounds_toArray, List.set_cons_zero, List.set_cons_succ]))
    (refine takeHs (i := 15) rfl (by kernel_rfl) (by kernel_rfl) (by kernel_rfl) (fun _ _ _ _ h => h) (by rfl) (by first | assumption | exact hI.held (by simp)) ?_; (try simp only [Act.put, List.setIfInBounds_toArray, List.set_cons_zero, List.set_cons_succ]))
    (refine takeHs (i := 16) rfl (by kernel_rfl) (by kernel_rfl) (by kernel_rfl) (fun _ _ _ _ h => h) (by rfl) (by first | assumption | exact hI.held (by simp)) ?_; (try simp only [Act.put, List.setIfInBounds_toArray, List.set_cons_zero, List.set_cons_succ]))
    (refine takeHs (i := 17) rfl (by kernel_rfl) (by kernel_rfl) (by kernel_rfl) (fun _ _ _ _ h => h) (by rfl) (by first | assumption | exact hI.held (by simp)) ?_; (try simp only [Act.put, List.setIfInBounds_toArray, List.set_cons_zero, List.set_cons_succ]))
    (refine takeHs (i := 18) rfl (by kernel_rfl) (by kernel_rfl) (by kernel_rfl) (fun _ _ _ _ h => h) (by rfl) (by first | assumption | exact hI.held (by simp)) ?_; (try simp only [Act.put, List.setIfInBounds_toArray, List.set_cons_zero, List.set_cons_succ]))
    (refine takeHs (i := 19) rfl (by kernel_rfl) (by kernel_rfl) (by kernel_rfl) (fun _ _ _ _ h => h) (by rfl) (by first | assumption | exact hI.held (by simp)) ?_; (try simp only [Act.put, List.setIfInBounds_toArray, List.set_cons_zero, List.set_cons_succ]))
    (refine takeHs (i := 20) rfl (by kernel_rfl) (by kernel_rfl) (by kernel_rfl) (fun _ _ _ _ h => h) (by rfl) (by first | assumption | exact hI.held (by simp)) ?_; (try simp only [Act.put, List.setIfInBounds_toArray, List.set_cons_zero, List.set_cons_succ]))
    (refine takeHs (i := 21) rfl (by kernel_rfl) (by kernel_rfl) (by kernel_rfl) (fun _ _ _ _ h => h) (by rfl) (by first | assumption | exact hI.held (by simp)) ?_; (try simp only [Act.put, List.setIfInBounds_toArray, List.set_cons_zero, List.set_cons_succ]))
    (refine tk 22 ?_; (try simp only [np, Act.put]))
    refine oneH (i := 23) (by kernel_rfl) rfl (fun K hK => ?_)
    (refine stepI rfl (wpI_storeW _ _ _ rfl hI rfl 0 rfl rfl rfl (by kernel_rfl) (by simp [Value.oneCell']) fun w' hI' => hK.out _ _ (hI'.held (by simp)) (fun hHeld => ?_)); clear hK K; (try clear hb); clear hI; have hI := hI'; clear hI'; (try simp only [mm, Act.put, Act.eval] at hI); (try clear c0); (try clear c1); (try clear c2); (try clear c3); (try clear c4); (try clear c5); (try have c0 := hI.cell (i := 0) rfl); (try have c1 := hI.cell (i := 1) rfl); (try have c2 := hI.cell (i := 2) rfl); (try have c3 := hI.cell (i := 3) rfl); (try have c4 := hI.cell (i := 4) rfl); (try have c5 := hI.cell (i := 5) rfl); skip; (try simp only [Act.put, List.setIfInBounds_toArray, List.set_cons_zero, List.set_cons_succ]))
    (refine tk 24 ?_; (try simp only [np, Act.put])); (refine tk 25 ?_; (try simp only [np, Act.put]))
    refine wpAnyH_done (by kernel_rfl) ?_ _
    clear hHeld
    go_wp2_with fail
    have hbx := hI.box (i := 0) rfl
    ((try simp only [Exit.inBlock, Exit.then]); refine bodyPost_ret (results_ctt rfl rfl hbx Tryz.underlying95 rfl (by kernel_rfl)) rfl ?_)
    exact ⟨by rw [HIH.out]; rfl, hI.below⟩
  · have hg : decide ((1 : Int) < (n : Int) + 1) = true := by simp; omega
    have hg2 : (1 : Int) < (n : Int) + 1 := by omega
    rw [decide_eq_true (by omega), Bool.true_and] at hih
    cases hnb : nameB x
    · rw [hnb] at hih HNM
      rw [Bool.false_and] at hih
      have HIH := Lib.hid hih
      clear hih hnb
      go_enter Tryz.func33, Tryz.ntmps33
      go_wp2_with (first | (refine listI_var rfl rfl 95 rfl _ _ rfl hI Tryz.zeroValue95 (fun _ => rfl) (fun _ => rfl) (by first | rfl | (simp only [hsz1]; first | done | rfl | kernel_rfl) | (simp only [hsz2]; first | done | rfl | kernel_rfl) | (simp only [hsz]; first | done | rfl | kernel_rfl) | kernel_rfl) (by first | exact info_mach (by assumption) | (simp only [hsz1]; kernel_rfl) | (simp only [hsz2]; kernel_rfl) | (simp only [hsz]; kernel_rfl) | kernel_rfl) (by first | (simp [Value.oneCell']; done) | exact HO1.out | exact HO2.out) fun gx w' hI' hb => ?_; (try clear hb); clear hI; have hI := hI'; clear hI'; (try simp only [mm, Act.put, Act.eval] at hI); (try clear c0); (try clear c1); (try clear c2); (try clear c3); (try clear c4); (try clear c5); (try have c0 := hI.cell (i := 0) rfl); (try have c1 := hI.cell (i := 1) rfl); (try have c2 := hI.cell (i := 2) rfl); (try have c3 := hI.cell (i := 3) rfl); (try have c4 := hI.cell (i := 4) rfl); (try have c5 := hI.cell (i := 5) rfl); skip) | (refine listI rfl fun K hK => wpI_alloc 95 rfl hI Tryz.zeroValue95 (cs := #[.int .i64 instZ.op, .int .i64 instZ.a, .int .i64 instZ.b, .int .i64 instZ.c]) (by first | rfl | kernel_rfl) fun gx w' hI' hb => hK _ _ ?_; clear hK K; (try clear hb); clear hI; have hI := hI'; clear hI'; (try simp only [mm, Act.put, Act.eval] at hI); (try clear c0); (try clear c1); (try clear c2); (try clear c3); (try clear c4); (try clear c5); (try have c0 := hI.cell (i := 0) rfl); (try have c1 := hI.cell (i := 1) rfl); (try have c2 := hI.cell (i := 2) rfl); (try have c3 := hI.cell (i := 3) rfl); (try have c4 := hI.cell (i := 4) rfl); (try have c5 := hI.cell (i := 5) rfl); skip) | (go_at_call 29; refine (HS.out _ _ hI).mono ?_; rintro e w' ⟨gl, rfl, hI'⟩; simp only [List.cons_append, List.nil_append] at hI'; rw [HLC.out] at hI'; (try clear hb); clear hI; have hI := hI'; clear hI'; (try simp only [mm, Act.put, Act.eval] at hI); (try clear c0); (try clear c1); (try clear c2); (try clear c3); (try clear c4); (try clear c5); (try have c0 := hI.cell (i := 0) rfl); (try have c1 := hI.cell (i := 1) rfl); (try have c2 := hI.cell (i := 2) rfl); (try have c3 := hI.cell (i := 3) rfl); (try have c4 := hI.cell (i := 4) rfl); (try have c5 := hI.cell (i := 5) rfl); skip) | (refine listI rfl fun K hK => wpI_store1 _ _ _ rfl hI rfl 1 rfl rfl rfl HSZ.out (by kernel_rfl) fun w' hI' => hK _ _ ?_; clear hK K; (try clear hb); clear hI; have hI := hI'; clear hI'; (try simp only [mm, Act.put, Act.eval] at hI); (try clear c0); (try clear c1); (try clear c2); (try clear c3); (try clear c4); (try clear c5); (try have c0 := hI.cell (i := 0) rfl); (try have c1 := hI.cell (i := 1) rfl); (try have c2 := hI.cell (i := 2) rfl); (try have c3 := hI.cell (i := 3) rfl); (try have c4 := hI.cell (i := 4) rfl); (try have c5 := hI.cell (i := 5) rfl); skip) | (go_at_call 85; (with_reducible refine (HJN.out _ _ _ _ hI).mono ?_); intro e w' hr; obtain ⟨rfl, hb⟩ := hr; have hI' := hI.on hb; (try clear hb); clear hI; have hI := hI'; clear hI'; (try simp only [mm, Act.put, Act.eval] at hI); (try clear c0); (try clear c1); (try clear c2); (try clear c3); (try clear c4); (try clear c5); (try have c0 := hI.cell (i := 0) rfl); (try have c1 := hI.cell (i := 1) rfl); (try have c2 := hI.cell (i := 2) rfl); (try have c3 := hI.cell (i := 3) rfl); (try have c4 := hI.cell (i := 4) rfl); (try have c5 := hI.cell (i := 5) rfl); skip) | (go_at_call 35; (with_reducible refine (HPS.out _ (hE.inv hI)).mono ?_); intro e w' hr; obtain ⟨rfl, hb⟩ := hr; have hI' := hI.on hb; (try clear hb); clear hI; have hI := hI'; clear hI'; (try simp only [mm, Act.put, Act.eval] at hI); (try clear c0); (try clear c1); (try clear c2); (try clear c3); (try clear c4); (try clear c5); (try have c0 := hI.cell (i := 0) rfl); (try have c1 := hI.cell (i := 1) rfl); (try have c2 := hI.cell (i := 2) rfl); (try have c3 := hI.cell (i := 3) rfl); (try have c4 := hI.cell (i := 4) rfl); (try have c5 := hI.cell (i := 5) rfl); skip) | fail)
      (refine wp_region_K [2] (by kernel_rfl) hI fun w' hI' hHeld => ?_; (try clear hb); clear hI; have hI := hI'; clear hI'; (try simp only [mm, Act.put, Act.eval] at hI); (try clear c0); (try clear c1); (try clear c2); (try clear c3); (try clear c4); (try clear c5); (try have c0 := hI.cell (i := 0) rfl); (try have c1 := hI.cell (i := 1) rfl); (try have c2 := hI.cell (i := 2) rfl); (try have c3 := hI.cell (i := 3) rfl); (try have c4 := hI.cell (i := 4) rfl); (try have c5 := hI.cell (i := 5) rfl); skip)
      (refine tk 0 ?_; (try simp only [np, Act.put])); (refine tk 1 ?_; (try simp only [np, Act.put])); (refine tk 2 ?_; (try simp only [np, Act.put])); (refine tk 3 ?_; (try simp only [np, Act.put])); (refine tk 4 ?_; (try simp only [np, Act.put])); (refine tk 5 ?_; (try simp only [np, Act.put])); (refine tk 6 ?_; (try simp only [np, Act.put]))
      refine oneH (i := 7) (by kernel_rfl) rfl (fun K hK => ?_)
      (go_simp; refine (HNM.out _).mono ?_; intro e w' hr; obtain ⟨rfl, hb⟩ := hr; have hI' := hI.on hb; refine hK.out _ _ (hI'.held (by simp)) (fun hHeld => ?_); clear hK K; (try clear hb); clear hI; have hI := hI'; clear hI'; (try simp only [mm, Act.put, Act.eval] at hI); (try clear c0); (try clear c1); (try clear c2); (try clear c3); (try clear c4); (try clear c5); (try have c0 := hI.cell (i := 0) rfl); (try have c1 := hI.cell (i := 1) rfl); (try have c2 := hI.cell (i := 2) rfl); (try have c3 := hI.cell (i := 3) rfl); (try have c4 := hI.cell (i := 4) rfl); (try have c5 := hI.cell (i := 5) rfl); skip; (try simp only [Act.put, List.setIfInBounds_toArray, List.set_cons_zero, List.set_cons_succ]))
      (refine tk 8 ?_; (try simp only [np, Act.put])); (refine tk 9 ?_; (try simp only [np, Act.put]))
      (refine takeHs (i := 10) rfl (by kernel_rfl) (by kernel_rfl) (by kernel_rfl) (fun _ _ _ _ h => h) (by rfl) (by first | assumption | exact hI.held (by simp)) ?_; (try simp only [Act.put, List.setIfInBounds_toArray, List.set_cons_zero, List.set_cons_succ]))
      (refine takeHs (i := 11) rfl (by kernel_rfl) (by kernel_rfl) (by kernel_rfl) (fun _ _ _ _ h => h) (by rfl) (by first | assumption | exact hI.held (by simp)) ?_; (try simp only [Act.put, List.setIfInBounds_toArray, List.set_cons_zero, List.set_cons_succ]))
      (refine tk 12 ?_; (try simp only [np, Act.put]))
      (refine tk 13 ?_; (try simp only [np, Act.put]))
      (refine takeHs (i := 14) rfl (by kernel_rfl) (by kernel_rfl) (by kernel_rfl) (fun _ _ _ _ h => h) (by rfl) (by first | assumption | exact hI.held (by simp)) ?_; (try simp only [Act.put, List.setIfInBounds_toArray, List.set_cons_zero, List.set_cons_succ]))
      (refine takeHs (i := 15) rfl (by kernel_rfl) (by kernel_rfl) (by kernel_rfl) (fun _ _ _ _ h => h) (by rfl) (by first | assumption | exact hI.held (by simp)) ?_; (try simp only [Act.put, List.setIfInBounds_toArray, List.set_cons_zero, List.set_cons_succ]))
      (refine takeHs (i := 16) rfl (by kernel_rfl) (by kernel_rfl) (by kernel_rfl) (fun _ _ _ _ h => h) (by rfl) (by first | assumption | exact hI.held (by simp)) ?_; (try simp only [Act.put, List.setIfInBounds_toArray, List.set_cons_zero, List.set_cons_succ]))
      (refine takeHs (i := 17) rfl (by kernel_rfl) (by kernel_rfl) (by kernel_rfl) (fun _ _ _ _ h => h) (by rfl) (by first | assumption | exact hI.held (by simp)) ?_; (try simp only [Act.put, List.setIfInBounds_toArray, List.set_cons_zero, List.set_cons_succ]))
      (refine takeHs (i := 18) rfl (by kernel_rfl) (by kernel_rfl) (by kernel_rfl) (fun _ _ _ _ h => h) (by rfl) (by first | assumption | exact hI.held (by simp)) ?_; (try simp only [Act.put, List.setIfInBounds_toArray, List.set_cons_zero, List.set_cons_succ]))
      (refine takeHs (i := 19) rfl (by kernel_rfl) (by kernel_rfl) (by kernel_rfl) (fun _ _ _ _ h => h) (by rfl) (by first | assumption | exact hI.held (by simp)) ?_; (try simp only [Act.put, List.setIfInBounds_toArray, List.set_cons_zero, List.set_cons_succ]))
      (refine takeHs (i := 20) rfl (by kernel_rfl) (by kernel_rfl) (by kernel_rfl) (fun _ _ _ _ h => h) (by rfl) (by first | assumption | exact hI.held (by simp)) ?_; (try simp only [Act.put, List.setIfInBounds_toArray, List.set_cons_zero, List.set_cons_succ]))
      (refine takeHs (i := 21) rfl (by kernel_rfl) (by kernel_rfl) (by kernel_rfl) (fun _ _ _ _ h => h) (by rfl) (by first | assumption | exact hI.held (by simp)) ?_; (try simp only [Act.put, List.setIfInBounds_toArray, List.set_cons_zero, List.set_cons_succ]))
      (refine tk 22 ?_; (try simp only [np, Act.put]))
      refine oneH (i := 23) (by kernel_rfl) rfl (fun K hK => ?_)
      (refine stepI rfl (wpI_storeW _ _ _ rfl hI rfl 0 rfl rfl rfl (by kernel_rfl) (by simp [Value.oneCell']) fun w' hI' => hK.out _ _ (hI'.held (by simp)) (fun hHeld => ?_)); clear hK K; (try clear hb); clear hI; have hI := hI'; clear hI'; (try simp only [mm, Act.put, Act.eval] at hI); (try clear c0); (try clear c1); (try clear c2); (try clear c3); (try clear c4); (try clear c5); (try have c0 := hI.cell (i := 0) rfl); (try have c1 := hI.cell (i := 1) rfl); (try have c2 := hI.cell (i := 2) rfl); (try have c3 := hI.cell (i := 3) rfl); (try have c4 := hI.cell (i := 4) rfl); (try have c5 := hI.cell (i := 5) rfl); skip; (try simp only [Act.put, List.setIfInBounds_toArray, List.set_cons_zero, List.set_cons_succ]))
      (refine tk 24 ?_; (try simp only [np, Act.put])); (refine tk 25 ?_; (try simp only [np, Act.put]))
      refine wpAnyH_done (by kernel_rfl) ?_ _
      clear hHeld
      go_wp2_with fail
      have hbx := hI.box (i := 0) rfl
      ((try simp only [Exit.inBlock, Exit.then]); refine bodyPost_ret (results_ctt rfl rfl hbx Tryz.underlying95 rfl (by kernel_rfl)) rfl ?_)
      exact ⟨by rw [HIH.out]; rfl, hI.below⟩
    · rw [hnb] at hih HNM
      rw [Bool.true_and] at hih
      clear hnb
      by_cases he : je = 0
      · subst he
        rw [decide_eq_true rfl, Bool.true_and] at hih
        by_cases h8 : j1 = 8
        · subst h8
          have HIH := Lib.hid (show ih = true from hih)
          clear hih
          go_enter Tryz.func33, Tryz.ntmps33
          go_wp2_with (first | (refine listI_var rfl rfl 95 rfl _ _ rfl hI Tryz.zeroValue95 (fun _ => rfl) (fun _ => rfl) (by first | rfl | (simp only [hsz1]; first | done | rfl | kernel_rfl) | (simp only [hsz2]; first | done | rfl | kernel_rfl) | (simp only [hsz]; first | done | rfl | kernel_rfl) | kernel_rfl) (by first | exact info_mach (by assumption) | (simp only [hsz1]; kernel_rfl) | (simp only [hsz2]; kernel_rfl) | (simp only [hsz]; kernel_rfl) | kernel_rfl) (by first | (simp [Value.oneCell']; done) | exact HO1.out | exact HO2.out) fun gx w' hI' hb => ?_; (try clear hb); clear hI; have hI := hI'; clear hI'; (try simp only [mm, Act.put, Act.eval] at hI); (try clear c0); (try clear c1); (try clear c2); (try clear c3); (try clear c4); (try clear c5); (try have c0 := hI.cell (i := 0) rfl); (try have c1 := hI.cell (i := 1) rfl); (try have c2 := hI.cell (i := 2) rfl); (try have c3 := hI.cell (i := 3) rfl); (try have c4 := hI.cell (i := 4) rfl); (try have c5 := hI.cell (i := 5) rfl); skip) | (refine listI rfl fun K hK => wpI_alloc 95 rfl hI Tryz.zeroValue95 (cs := #[.int .i64 instZ.op, .int .i64 instZ.a, .int .i64 instZ.b, .int .i64 instZ.c]) (by first | rfl | kernel_rfl) fun gx w' hI' hb => hK _ _ ?_; clear hK K; (try clear hb); clear hI; have hI := hI'; clear hI'; (try simp only [mm, Act.put, Act.eval] at hI); (try clear c0); (try clear c1); (try clear c2); (try clear c3); (try clear c4); (try clear c5); (try have c0 := hI.cell (i := 0) rfl); (try have c1 := hI.cell (i := 1) rfl); (try have c2 := hI.cell (i := 2) rfl); (try have c3 := hI.cell (i := 3) rfl); (try have c4 := hI.cell (i := 4) rfl); (try have c5 := hI.cell (i := 5) rfl); skip) | (go_at_call 29; refine (HS.out _ _ hI).mono ?_; rintro e w' ⟨gl, rfl, hI'⟩; simp only [List.cons_append, List.nil_append] at hI'; rw [HLC.out] at hI'; (try clear hb); clear hI; have hI := hI'; clear hI'; (try simp only [mm, Act.put, Act.eval] at hI); (try clear c0); (try clear c1); (try clear c2); (try clear c3); (try clear c4); (try clear c5); (try have c0 := hI.cell (i := 0) rfl); (try have c1 := hI.cell (i := 1) rfl); (try have c2 := hI.cell (i := 2) rfl); (try have c3 := hI.cell (i := 3) rfl); (try have c4 := hI.cell (i := 4) rfl); (try have c5 := hI.cell (i := 5) rfl); skip) | (refine listI rfl fun K hK => wpI_store1 _ _ _ rfl hI rfl 1 rfl rfl rfl HSZ.out (by kernel_rfl) fun w' hI' => hK _ _ ?_; clear hK K; (try clear hb); clear hI; have hI := hI'; clear hI'; (try simp only [mm, Act.put, Act.eval] at hI); (try clear c0); (try clear c1); (try clear c2); (try clear c3); (try clear c4); (try clear c5); (try have c0 := hI.cell (i := 0) rfl); (try have c1 := hI.cell (i := 1) rfl); (try have c2 := hI.cell (i := 2) rfl); (try have c3 := hI.cell (i := 3) rfl); (try have c4 := hI.cell (i := 4) rfl); (try have c5 := hI.cell (i := 5) rfl); skip) | (go_at_call 85; (with_reducible refine (HJN.out _ _ _ _ hI).mono ?_); intro e w' hr; obtain ⟨rfl, hb⟩ := hr; have hI' := hI.on hb; (try clear hb); clear hI; have hI := hI'; clear hI'; (try simp only [mm, Act.put, Act.eval] at hI); (try clear c0); (try clear c1); (try clear c2); (try clear c3); (try clear c4); (try clear c5); (try have c0 := hI.cell (i := 0) rfl); (try have c1 := hI.cell (i := 1) rfl); (try have c2 := hI.cell (i := 2) rfl); (try have c3 := hI.cell (i := 3) rfl); (try have c4 := hI.cell (i := 4) rfl); (try have c5 := hI.cell (i := 5) rfl); skip) | (go_at_call 35; (with_reducible refine (HPS.out _ (hE.inv hI)).mono ?_); intro e w' hr; obtain ⟨rfl, hb⟩ := hr; have hI' := hI.on hb; (try clear hb); clear hI; have hI := hI'; clear hI'; (try simp only [mm, Act.put, Act.eval] at hI); (try clear c0); (try clear c1); (try clear c2); (try clear c3); (try clear c4); (try clear c5); (try have c0 := hI.cell (i := 0) rfl); (try have c1 := hI.cell (i := 1) rfl); (try have c2 := hI.cell (i := 2) rfl); (try have c3 := hI.cell (i := 3) rfl); (try have c4 := hI.cell (i := 4) rfl); (try have c5 := hI.cell (i := 5) rfl); skip) | fail)
          (refine wp_region_K [2] (by kernel_rfl) hI fun w' hI' hHeld => ?_; (try clear hb); clear hI; have hI := hI'; clear hI'; (try simp only [mm, Act.put, Act.eval] at hI); (try clear c0); (try clear c1); (try clear c2); (try clear c3); (try clear c4); (try clear c5); (try have c0 := hI.cell (i := 0) rfl); (try have c1 := hI.cell (i := 1) rfl); (try have c2 := hI.cell (i := 2) rfl); (try have c3 := hI.cell (i := 3) rfl); (try have c4 := hI.cell (i := 4) rfl); (try have c5 := hI.cell (i := 5) rfl); skip)
          (refine tk 0 ?_; (try simp only [np, Act.put])); (refine tk 1 ?_; (try simp only [np, Act.put])); (refine tk 2 ?_; (try simp only [np, Act.put])); (refine tk 3 ?_; (try simp only [np, Act.put])); (refine tk 4 ?_; (try simp only [np, Act.put])); (refine tk 5 ?_; (try simp only [np, Act.put])); (refine tk 6 ?_; (try simp only [np, Act.put]))
          refine oneH (i := 7) (by kernel_rfl) rfl (fun K hK => ?_)
          (go_simp; refine (HNM.out _).mono ?_; intro e w' hr; obtain ⟨rfl, hb⟩ := hr; have hI' := hI.on hb; refine hK.out _ _ (hI'.held (by simp)) (fun hHeld => ?_); clear hK K; (try clear hb); clear hI; have hI := hI'; clear hI'; (try simp only [mm, Act.put, Act.eval] at hI); (try clear c0); (try clear c1); (try clear c2); (try clear c3); (try clear c4); (try clear c5); (try have c0 := hI.cell (i := 0) rfl); (try have c1 := hI.cell (i := 1) rfl); (try have c2 := hI.cell (i := 2) rfl); (try have c3 := hI.cell (i := 3) rfl); (try have c4 := hI.cell (i := 4) rfl); (try have c5 := hI.cell (i := 5) rfl); skip; (try simp only [Act.put, List.setIfInBounds_toArray, List.set_cons_zero, List.set_cons_succ]))
          (refine tk 8 ?_; (try simp only [np, Act.put])); (refine tk 9 ?_; (try simp only [np, Act.put])); (refine tk 10 ?_; (try simp only [np, Act.put])); (refine tk 11 ?_; (try simp only [np, Act.put])); (refine tk 12 ?_; (try simp only [np, Act.put])); (refine tk 13 ?_; (try simp only [np, Act.put])); (refine tk 14 ?_; (try simp only [np, Act.put])); (refine tk 15 ?_; (try simp only [np, Act.put])); (refine tk 16 ?_; (try simp only [np, Act.put])); (refine tk 17 ?_; (try simp only [np, Act.put]))
          (refine takeHs (i := 18) rfl (by kernel_rfl) (by kernel_rfl) (by kernel_rfl) (fun _ _ _ _ h => h) (by rfl) (by first | assumption | exact hI.held (by simp)) ?_; (try simp only [Act.put, List.setIfInBounds_toArray, List.set_cons_zero, List.set_cons_succ]))
          (refine takeHs (i := 19) rfl (by kernel_rfl) (by kernel_rfl) (by kernel_rfl) (fun _ _ _ _ h => h) (by rfl) (by first | assumption | exact hI.held (by simp)) ?_; (try simp only [Act.put, List.setIfInBounds_toArray, List.set_cons_zero, List.set_cons_succ]))
          (refine takeHs (i := 20) rfl (by kernel_rfl) (by kernel_rfl) (by kernel_rfl) (fun _ _ _ _ h => h) (by rfl) (by first | assumption | exact hI.held (by simp)) ?_; (try simp only [Act.put, List.setIfInBounds_toArray, List.set_cons_zero, List.set_cons_succ]))
          (refine tk 21 ?_; (try simp only [np, Act.put])); (refine tk 22 ?_; (try simp only [np, Act.put]))
          refine oneH (i := 23) (by kernel_rfl) rfl (fun K hK => ?_)
          (refine stepI rfl (wpI_storeW _ _ _ rfl hI rfl 0 rfl rfl rfl (by kernel_rfl) (by simp [Value.oneCell']) fun w' hI' => hK.out _ _ (hI'.held (by simp)) (fun hHeld => ?_)); clear hK K; (try clear hb); clear hI; have hI := hI'; clear hI'; (try simp only [mm, Act.put, Act.eval] at hI); (try clear c0); (try clear c1); (try clear c2); (try clear c3); (try clear c4); (try clear c5); (try have c0 := hI.cell (i := 0) rfl); (try have c1 := hI.cell (i := 1) rfl); (try have c2 := hI.cell (i := 2) rfl); (try have c3 := hI.cell (i := 3) rfl); (try have c4 := hI.cell (i := 4) rfl); (try have c5 := hI.cell (i := 5) rfl); skip; (try simp only [Act.put, List.setIfInBounds_toArray, List.set_cons_zero, List.set_cons_succ]))
          (refine tk 24 ?_; (try simp only [np, Act.put])); (refine tk 25 ?_; (try simp only [np, Act.put]))
          refine wpAnyH_done (by kernel_rfl) ?_ _
          clear hHeld
          go_wp2_with fail
          have hbx := hI.box (i := 0) rfl
          ((try simp only [Exit.inBlock, Exit.then]); refine bodyPost_ret (results_ctt rfl rfl hbx Tryz.underlying95 rfl (by kernel_rfl)) rfl ?_)
          exact ⟨by rw [HIH.out]; rfl, hI.below⟩
        · rw [decide_eq_false h8, Bool.false_or] at hih
          have HIH := Lib.hid (show ih = (j1 == 9) from hih)
          have h8b : (j1 == 8) = false := by simp; exact h8
          clear hih
          go_enter Tryz.func33, Tryz.ntmps33
          go_wp2_with (first | (refine listI_var rfl rfl 95 rfl _ _ rfl hI Tryz.zeroValue95 (fun _ => rfl) (fun _ => rfl) (by first | rfl | (simp only [hsz1]; first | done | rfl | kernel_rfl) | (simp only [hsz2]; first | done | rfl | kernel_rfl) | (simp only [hsz]; first | done | rfl | kernel_rfl) | kernel_rfl) (by first | exact info_mach (by assumption) | (simp only [hsz1]; kernel_rfl) | (simp only [hsz2]; kernel_rfl) | (simp only [hsz]; kernel_rfl) | kernel_rfl) (by first | (simp [Value.oneCell']; done) | exact HO1.out | exact HO2.out) fun gx w' hI' hb => ?_; (try clear hb); clear hI; have hI := hI'; clear hI'; (try simp only [mm, Act.put, Act.eval] at hI); (try clear c0); (try clear c1); (try clear c2); (try clear c3); (try clear c4); (try clear c5); (try have c0 := hI.cell (i := 0) rfl); (try have c1 := hI.cell (i := 1) rfl); (try have c2 := hI.cell (i := 2) rfl); (try have c3 := hI.cell (i := 3) rfl); (try have c4 := hI.cell (i := 4) rfl); (try have c5 := hI.cell (i := 5) rfl); skip) | (refine listI rfl fun K hK => wpI_alloc 95 rfl hI Tryz.zeroValue95 (cs := #[.int .i64 instZ.op, .int .i64 instZ.a, .int .i64 instZ.b, .int .i64 instZ.c]) (by first | rfl | kernel_rfl) fun gx w' hI' hb => hK _ _ ?_; clear hK K; (try clear hb); clear hI; have hI := hI'; clear hI'; (try simp only [mm, Act.put, Act.eval] at hI); (try clear c0); (try clear c1); (try clear c2); (try clear c3); (try clear c4); (try clear c5); (try have c0 := hI.cell (i := 0) rfl); (try have c1 := hI.cell (i := 1) rfl); (try have c2 := hI.cell (i := 2) rfl); (try have c3 := hI.cell (i := 3) rfl); (try have c4 := hI.cell (i := 4) rfl); (try have c5 := hI.cell (i := 5) rfl); skip) | (go_at_call 29; refine (HS.out _ _ hI).mono ?_; rintro e w' ⟨gl, rfl, hI'⟩; simp only [List.cons_append, List.nil_append] at hI'; rw [HLC.out] at hI'; (try clear hb); clear hI; have hI := hI'; clear hI'; (try simp only [mm, Act.put, Act.eval] at hI); (try clear c0); (try clear c1); (try clear c2); (try clear c3); (try clear c4); (try clear c5); (try have c0 := hI.cell (i := 0) rfl); (try have c1 := hI.cell (i := 1) rfl); (try have c2 := hI.cell (i := 2) rfl); (try have c3 := hI.cell (i := 3) rfl); (try have c4 := hI.cell (i := 4) rfl); (try have c5 := hI.cell (i := 5) rfl); skip) | (refine listI rfl fun K hK => wpI_store1 _ _ _ rfl hI rfl 1 rfl rfl rfl HSZ.out (by kernel_rfl) fun w' hI' => hK _ _ ?_; clear hK K; (try clear hb); clear hI; have hI := hI'; clear hI'; (try simp only [mm, Act.put, Act.eval] at hI); (try clear c0); (try clear c1); (try clear c2); (try clear c3); (try clear c4); (try clear c5); (try have c0 := hI.cell (i := 0) rfl); (try have c1 := hI.cell (i := 1) rfl); (try have c2 := hI.cell (i := 2) rfl); (try have c3 := hI.cell (i := 3) rfl); (try have c4 := hI.cell (i := 4) rfl); (try have c5 := hI.cell (i := 5) rfl); skip) | (go_at_call 85; (with_reducible refine (HJN.out _ _ _ _ hI).mono ?_); intro e w' hr; obtain ⟨rfl, hb⟩ := hr; have hI' := hI.on hb; (try clear hb); clear hI; have hI := hI'; clear hI'; (try simp only [mm, Act.put, Act.eval] at hI); (try clear c0); (try clear c1); (try clear c2); (try clear c3); (try clear c4); (try clear c5); (try have c0 := hI.cell (i := 0) rfl); (try have c1 := hI.cell (i := 1) rfl); (try have c2 := hI.cell (i := 2) rfl); (try have c3 := hI.cell (i := 3) rfl); (try have c4 := hI.cell (i := 4) rfl); (try have c5 := hI.cell (i := 5) rfl); skip) | (go_at_call 35; (with_reducible refine (HPS.out _ (hE.inv hI)).mono ?_); intro e w' hr; obtain ⟨rfl, hb⟩ := hr; have hI' := hI.on hb; (try clear hb); clear hI; have hI := hI'; clear hI'; (try simp only [mm, Act.put, Act.eval] at hI); (try clear c0); (try clear c1); (try clear c2); (try clear c3); (try clear c4); (try clear c5); (try have c0 := hI.cell (i := 0) rfl); (try have c1 := hI.cell (i := 1) rfl); (try have c2 := hI.cell (i := 2) rfl); (try have c3 := hI.cell (i := 3) rfl); (try have c4 := hI.cell (i := 4) rfl); (try have c5 := hI.cell (i := 5) rfl); skip) | fail)
          (refine wp_region_K [2] (by kernel_rfl) hI fun w' hI' hHeld => ?_; (try clear hb); clear hI; have hI := hI'; clear hI'; (try simp only [mm, Act.put, Act.eval] at hI); (try clear c0); (try clear c1); (try clear c2); (try clear c3); (try clear c4); (try clear c5); (try have c0 := hI.cell (i := 0) rfl); (try have c1 := hI.cell (i := 1) rfl); (try have c2 := hI.cell (i := 2) rfl); (try have c3 := hI.cell (i := 3) rfl); (try have c4 := hI.cell (i := 4) rfl); (try have c5 := hI.cell (i := 5) rfl); skip)
          (refine tk 0 ?_; (try simp only [np, Act.put])); (refine tk 1 ?_; (try simp only [np, Act.put])); (refine tk 2 ?_; (try simp only [np, Act.put])); (refine tk 3 ?_; (try simp only [np, Act.put])); (refine tk 4 ?_; (try simp only [np, Act.put])); (refine tk 5 ?_; (try simp only [np, Act.put])); (refine tk 6 ?_; (try simp only [np, Act.put]))
          refine oneH (i := 7) (by kernel_rfl) rfl (fun K hK => ?_)
          (go_simp; refine (HNM.out _).mono ?_; intro e w' hr; obtain ⟨rfl, hb⟩ := hr; have hI' := hI.on hb; refine hK.out _ _ (hI'.held (by simp)) (fun hHeld => ?_); clear hK K; (try clear hb); clear hI; have hI := hI'; clear hI'; (try simp only [mm, Act.put, Act.eval] at hI); (try clear c0); (try clear c1); (try clear c2); (try clear c3); (try clear c4); (try clear c5); (try have c0 := hI.cell (i := 0) rfl); (try have c1 := hI.cell (i := 1) rfl); (try have c2 := hI.cell (i := 2) rfl); (try have c3 := hI.cell (i := 3) rfl); (try have c4 := hI.cell (i := 4) rfl); (try have c5 := hI.cell (i := 5) rfl); skip; (try simp only [Act.put, List.setIfInBounds_toArray, List.set_cons_zero, List.set_cons_succ]))
          (refine tk 8 ?_; (try simp only [np, Act.put])); (refine tk 9 ?_; (try simp only [np, Act.put])); (refine tk 10 ?_; (try simp only [np, Act.put])); (refine tk 11 ?_; (try simp only [np, Act.put])); (refine tk 12 ?_; (try simp only [np, Act.put])); (refine tk 13 ?_; (try simp only [np, Act.put])); (refine tk 14 ?_; (try simp only [np, Act.put])); (refine tk 15 ?_; (try simp only [np, Act.put])); (refine tk 16 ?_; (try simp only [np, Act.put])); (refine tk 17 ?_; (try simp only [np, Act.put])); (refine tk 18 ?_; (try simp only [np, Act.put])); (refine tk 19 ?_; (try simp only [np, Act.put])); (refine tk 20 ?_; (try simp only [np, Act.put])); (refine tk 21 ?_; (try simp only [np, Act.put])); (refine tk 22 ?_; (try simp only [np, Act.put]))
          refine oneH (i := 23) (by kernel_rfl) rfl (fun K hK => ?_)
          (refine stepI rfl (wpI_storeW _ _ _ rfl hI rfl 0 rfl rfl rfl (by kernel_rfl) (by simp [Value.oneCell']) fun w' hI' => hK.out _ _ (hI'.held (by simp)) (fun hHeld => ?_)); clear hK K; (try clear hb); clear hI; have hI := hI'; clear hI'; (try simp only [mm, Act.put, Act.eval] at hI); (try clear c0); (try clear c1); (try clear c2); (try clear c3); (try clear c4); (try clear c5); (try have c0 := hI.cell (i := 0) rfl); (try have c1 := hI.cell (i := 1) rfl); (try have c2 := hI.cell (i := 2) rfl); (try have c3 := hI.cell (i := 3) rfl); (try have c4 := hI.cell (i := 4) rfl); (try have c5 := hI.cell (i := 5) rfl); skip; (try simp only [Act.put, List.setIfInBounds_toArray, List.set_cons_zero, List.set_cons_succ]))
          (refine tk 24 ?_; (try simp only [np, Act.put])); (refine tk 25 ?_; (try simp only [np, Act.put]))
          refine wpAnyH_done (by kernel_rfl) ?_ _
          clear hHeld
          go_wp2_with fail
          have hbx := hI.box (i := 0) rfl
          ((try simp only [Exit.inBlock, Exit.then]); refine bodyPost_ret (results_ctt rfl rfl hbx Tryz.underlying95 rfl (by kernel_rfl)) rfl ?_)
          exact ⟨by rw [HIH.out]; rfl, hI.below⟩
      · rw [decide_eq_false he, Bool.false_and] at hih
        have HIH := Lib.hid hih
        have heb : (je == 0) = false := by simp; exact he
        clear hih
        go_enter Tryz.func33, Tryz.ntmps33
        go_wp2_with (first | (refine listI_var rfl rfl 95 rfl _ _ rfl hI Tryz.zeroValue95 (fun _ => rfl) (fun _ => rfl) (by first | rfl | (simp only [hsz1]; first | done | rfl | kernel_rfl) | (simp only [hsz2]; first | done | rfl | kernel_rfl) | (simp only [hsz]; first | done | rfl | kernel_rfl) | kernel_rfl) (by first | exact info_mach (by assumption) | (simp only [hsz1]; kernel_rfl) | (simp only [hsz2]; kernel_rfl) | (simp only [hsz]; kernel_rfl) | kernel_rfl) (by first | (simp [Value.oneCell']; done) | exact HO1.out | exact HO2.out) fun gx w' hI' hb => ?_; (try clear hb); clear hI; have hI := hI'; clear hI'; (try simp only [mm, Act.put, Act.eval] at hI); (try clear c0); (try clear c1); (try clear c2); (try clear c3); (try clear c4); (try clear c5); (try have c0 := hI.cell (i := 0) rfl); (try have c1 := hI.cell (i := 1) rfl); (try have c2 := hI.cell (i := 2) rfl); (try have c3 := hI.cell (i := 3) rfl); (try have c4 := hI.cell (i := 4) rfl); (try have c5 := hI.cell (i := 5) rfl); skip) | (refine listI rfl fun K hK => wpI_alloc 95 rfl hI Tryz.zeroValue95 (cs := #[.int .i64 instZ.op, .int .i64 instZ.a, .int .i64 instZ.b, .int .i64 instZ.c]) (by first | rfl | kernel_rfl) fun gx w' hI' hb => hK _ _ ?_; clear hK K; (try clear hb); clear hI; have hI := hI'; clear hI'; (try simp only [mm, Act.put, Act.eval] at hI); (try clear c0); (try clear c1); (try clear c2); (try clear c3); (try clear c4); (try clear c5); (try have c0 := hI.cell (i := 0) rfl); (try have c1 := hI.cell (i := 1) rfl); (try have c2 := hI.cell (i := 2) rfl); (try have c3 := hI.cell (i := 3) rfl); (try have c4 := hI.cell (i := 4) rfl); (try have c5 := hI.cell (i := 5) rfl); skip) | (go_at_call 29; refine (HS.out _ _ hI).mono ?_; rintro e w' ⟨gl, rfl, hI'⟩; simp only [List.cons_append, List.nil_append] at hI'; rw [HLC.out] at hI'; (try clear hb); clear hI; have hI := hI'; clear hI'; (try simp only [mm, Act.put, Act.eval] at hI); (try clear c0); (try clear c1); (try clear c2); (try clear c3); (try clear c4); (try clear c5); (try have c0 := hI.cell (i := 0) rfl); (try have c1 := hI.cell (i := 1) rfl); (try have c2 := hI.cell (i := 2) rfl); (try have c3 := hI.cell (i := 3) rfl); (try have c4 := hI.cell (i := 4) rfl); (try have c5 := hI.cell (i := 5) rfl); skip) | (refine listI rfl fun K hK => wpI_store1 _ _ _ rfl hI rfl 1 rfl rfl rfl HSZ.out (by kernel_rfl) fun w' hI' => hK _ _ ?_; clear hK K; (try clear hb); clear hI; have hI := hI'; clear hI'; (try simp only [mm, Act.put, Act.eval] at hI); (try clear c0); (try clear c1); (try clear c2); (try clear c3); (try clear c4); (try clear c5); (try have c0 := hI.cell (i := 0) rfl); (try have c1 := hI.cell (i := 1) rfl); (try have c2 := hI.cell (i := 2) rfl); (try have c3 := hI.cell (i := 3) rfl); (try have c4 := hI.cell (i := 4) rfl); (try have c5 := hI.cell (i := 5) rfl); skip) | (go_at_call 85; (with_reducible refine (HJN.out _ _ _ _ hI).mono ?_); intro e w' hr; obtain ⟨rfl, hb⟩ := hr; have hI' := hI.on hb; (try clear hb); clear hI; have hI := hI'; clear hI'; (try simp only [mm, Act.put, Act.eval] at hI); (try clear c0); (try clear c1); (try clear c2); (try clear c3); (try clear c4); (try clear c5); (try have c0 := hI.cell (i := 0) rfl); (try have c1 := hI.cell (i := 1) rfl); (try have c2 := hI.cell (i := 2) rfl); (try have c3 := hI.cell (i := 3) rfl); (try have c4 := hI.cell (i := 4) rfl); (try have c5 := hI.cell (i := 5) rfl); skip) | (go_at_call 35; (with_reducible refine (HPS.out _ (hE.inv hI)).mono ?_); intro e w' hr; obtain ⟨rfl, hb⟩ := hr; have hI' := hI.on hb; (try clear hb); clear hI; have hI := hI'; clear hI'; (try simp only [mm, Act.put, Act.eval] at hI); (try clear c0); (try clear c1); (try clear c2); (try clear c3); (try clear c4); (try clear c5); (try have c0 := hI.cell (i := 0) rfl); (try have c1 := hI.cell (i := 1) rfl); (try have c2 := hI.cell (i := 2) rfl); (try have c3 := hI.cell (i := 3) rfl); (try have c4 := hI.cell (i := 4) rfl); (try have c5 := hI.cell (i := 5) rfl); skip) | fail)
        (refine wp_region_K [2] (by kernel_rfl) hI fun w' hI' hHeld => ?_; (try clear hb); clear hI; have hI := hI'; clear hI'; (try simp only [mm, Act.put, Act.eval] at hI); (try clear c0); (try clear c1); (try clear c2); (try clear c3); (try clear c4); (try clear c5); (try have c0 := hI.cell (i := 0) rfl); (try have c1 := hI.cell (i := 1) rfl); (try have c2 := hI.cell (i := 2) rfl); (try have c3 := hI.cell (i := 3) rfl); (try have c4 := hI.cell (i := 4) rfl); (try have c5 := hI.cell (i := 5) rfl); skip)
        (refine tk 0 ?_; (try simp only [np, Act.put])); (refine tk 1 ?_; (try simp only [np, Act.put])); (refine tk 2 ?_; (try simp only [np, Act.put])); (refine tk 3 ?_; (try simp only [np, Act.put])); (refine tk 4 ?_; (try simp only [np, Act.put])); (refine tk 5 ?_; (try simp only [np, Act.put])); (refine tk 6 ?_; (try simp only [np, Act.put]))
        refine oneH (i := 7) (by kernel_rfl) rfl (fun K hK => ?_)
        (go_simp; refine (HNM.out _).mono ?_; intro e w' hr; obtain ⟨rfl, hb⟩ := hr; have hI' := hI.on hb; refine hK.out _ _ (hI'.held (by simp)) (fun hHeld => ?_); clear hK K; (try clear hb); clear hI; have hI := hI'; clear hI'; (try simp only [mm, Act.put, Act.eval] at hI); (try clear c0); (try clear c1); (try clear c2); (try clear c3); (try clear c4); (try clear c5); (try have c0 := hI.cell (i := 0) rfl); (try have c1 := hI.cell (i := 1) rfl); (try have c2 := hI.cell (i := 2) rfl); (try have c3 := hI.cell (i := 3) rfl); (try have c4 := hI.cell (i := 4) rfl); (try have c5 := hI.cell (i := 5) rfl); skip; (try simp only [Act.put, List.setIfInBounds_toArray, List.set_cons_zero, List.set_cons_succ]))
        (refine tk 8 ?_; (try simp only [np, Act.put])); (refine tk 9 ?_; (try simp only [np, Act.put])); (refine tk 10 ?_; (try simp only [np, Act.put])); (refine tk 11 ?_; (try simp only [np, Act.put])); (refine tk 12 ?_; (try simp only [np, Act.put])); (refine tk 13 ?_; (try simp only [np, Act.put]))
        (refine takeHs (i := 14) rfl (by kernel_rfl) (by kernel_rfl) (by kernel_rfl) (fun _ _ _ _ h => h) (by rfl) (by first | assumption | exact hI.held (by simp)) ?_; (try simp only [Act.put, List.setIfInBounds_toArray, List.set_cons_zero, List.set_cons_succ]))
        (refine takeHs (i := 15) rfl (by kernel_rfl) (by kernel_rfl) (by kernel_rfl) (fun _ _ _ _ h => h) (by rfl) (by first | assumption | exact hI.held (by simp)) ?_; (try simp only [Act.put, List.setIfInBounds_toArray, List.set_cons_zero, List.set_cons_succ]))
        (refine takeHs (i := 16) rfl (by kernel_rfl) (by kernel_rfl) (by kernel_rfl) (fun _ _ _ _ h => h) (by rfl) (by first | assumption | exact hI.held (by simp)) ?_; (try simp only [Act.put, List.setIfInBounds_toArray, List.set_cons_zero, List.set_cons_succ]))
        (refine takeHs (i := 17) rfl (by kernel_rfl) (by kernel_rfl) (by kernel_rfl) (fun _ _ _ _ h => h) (by rfl) (by first | assumption | exact hI.held (by simp)) ?_; (try simp only [Act.put, List.setIfInBounds_toArray, List.set_cons_zero, List.set_cons_succ]))
        (refine takeHs (i := 18) rfl (by kernel_rfl) (by kernel_rfl) (by kernel_rfl) (fun _ _ _ _ h => h) (by rfl) (by first | assumption | exact hI.held (by simp)) ?_; (try simp only [Act.put, List.setIfInBounds_toArray, List.set_cons_zero, List.set_cons_succ]))
        (refine takeHs (i := 19) rfl (by kernel_rfl) (by kernel_rfl) (by kernel_rfl) (fun _ _ _ _ h => h) (by rfl) (by first | assumption | exact hI.held (by simp)) ?_; (try simp only [Act.put, List.setIfInBounds_toArray, List.set_cons_zero, List.set_cons_succ]))
        (refine takeHs (i := 20) rfl (by kernel_rfl) (by kernel_rfl) (by kernel_rfl) (fun _ _ _ _ h => h) (by rfl) (by first | assumption | exact hI.held (by simp)) ?_; (try simp only [Act.put, List.setIfInBounds_toArray, List.set_cons_zero, List.set_cons_succ]))
        (refine takeHs (i := 21) rfl (by kernel_rfl) (by kernel_rfl) (by kernel_rfl) (fun _ _ _ _ h => h) (by rfl) (by first | assumption | exact hI.held (by simp)) ?_; (try simp only [Act.put, List.setIfInBounds_toArray, List.set_cons_zero, List.set_cons_succ]))
        (refine tk 22 ?_; (try simp only [np, Act.put]))
        refine oneH (i := 23) (by kernel_rfl) rfl (fun K hK => ?_)
        (refine stepI rfl (wpI_storeW _ _ _ rfl hI rfl 0 rfl rfl rfl (by kernel_rfl) (by simp [Value.oneCell']) fun w' hI' => hK.out _ _ (hI'.held (by simp)) (fun hHeld => ?_)); clear hK K; (try clear hb); clear hI; have hI := hI'; clear hI'; (try simp only [mm, Act.put, Act.eval] at hI); (try clear c0); (try clear c1); (try clear c2); (try clear c3); (try clear c4); (try clear c5); (try have c0 := hI.cell (i := 0) rfl); (try have c1 := hI.cell (i := 1) rfl); (try have c2 := hI.cell (i := 2) rfl); (try have c3 := hI.cell (i := 3) rfl); (try have c4 := hI.cell (i := 4) rfl); (try have c5 := hI.cell (i := 5) rfl); skip; (try simp only [Act.put, List.setIfInBounds_toArray, List.set_cons_zero, List.set_cons_succ]))
        (refine tk 24 ?_; (try simp only [np, Act.put])); (refine tk 25 ?_; (try simp only [np, Act.put]))
        refine wpAnyH_done (by kernel_rfl) ?_ _
        clear hHeld
        go_wp2_with fail
        have hbx := hI.box (i := 0) rfl
        ((try simp only [Exit.inBlock, Exit.then]); refine bodyPost_ret (results_ctt rfl rfl hbx Tryz.underlying95 rfl (by kernel_rfl)) rfl ?_)
        exact ⟨by rw [HIH.out]; rfl, hI.below⟩
end Go.Proofs.YtbkjhdohkdeniaaGreatDoor
