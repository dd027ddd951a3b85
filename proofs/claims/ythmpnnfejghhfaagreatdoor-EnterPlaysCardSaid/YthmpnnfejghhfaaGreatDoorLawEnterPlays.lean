/- The law EnterPlays: the program returns what the reference returns, for all arguments; Go's tables hold what they were laid with, which the card ties. Conditions: none. -/
import Derived.Test.YthmpnnfejghhfaaGreatDoorQ14
namespace Go.Proofs.YthmpnnfejghhfaaGreatDoor
open Go.ChangeShapes Go.WideShapes Go.ChangeAt Go.RowKit
set_option linter.unusedVariables false
set_option linter.unusedSimpArgs false
set_option maxRecDepth 100000
theorem info_job : (Tryz.prog.info? 51).map (fun i => (i.zero, i.size, i.bytes)) = some (some (.agg #[.string ⟨#[]⟩, .slice none 0 0, .int .i64 0]), 3, 48) := by kernel_rfl
theorem make_61 : ∃ cs : Array Value, ∀ w : World, (Instr.makeSlice 59 (.int .i64 61) (.int .i64 61)).run Tryz.prog w = .ok (.slice (some ⟨w.heap.size, 0, none⟩) 61 61) (w.alloc (.cells cs 51)) := by
  obtain ⟨i0, hi, hz0, hz1, hz2⟩ := info_parts info_job
  exact ⟨_, fun w => run_make w _ _ i0 _ Tryz.underlying59 hi hz0 .i64 .i64 61 61 (by omega) (by omega) (by rw [hz2]; omega) (by omega)⟩
section
variable {P : Program} {o : Oper} {a : Act} {T : Nat → Prop} {w0 w : World} {rs : List Res} {K : Act → World → Prop} {Q : Exit → Act → World → Prop}
theorem wpI_make {ty et : TypeId} {m n : Value} {nn mm : Nat} {cs : Array Value} (hmk : ∀ w : World, (Instr.makeSlice ty m n).run P w = .ok (.slice (some ⟨w.heap.size, 0, none⟩) nn mm) (w.alloc (.cells cs et))) (x y : Operand) (ho : o.op = .makeSlice ty x y) (hx : a.eval x = m) (hy : a.eval y = n) (hI : InvT T w0 rs w)
    (h : ∀ g w', InvT T w0 (rs ++ [.box g et cs]) w' → Below w.heap.size w w' → K (a.put o.dst (.slice (some ⟨g, 0, none⟩) nn mm)) w') : o.wp P a w K Q := by
  unfold Oper.wp execOp
  simp only [ho, hx, hy, hmk, Sem.run_bind, Sem.run_pure, Result.andThen_ok]
  exact h _ _ (hI.alloc et cs) ((Below.refl _ _).alloc (Nat.le_refl _) _)
end
section
variable {T : Nat → Prop} {w0 w : World} {rs : List Res} {P : Program} {ops : Array Oper} {a : Act} {Q : Exit → Act → World → Prop}
theorem wp_region_KB (J : List Nat) {id : Nat} (hm : P.follows .mixedOrders = true) (hI : InvT T w0 rs w)
    (h : ∀ w', InvT T w0 rs w' → Below w.heap.size w w' → Held T w0 rs J w' → wpAnyH P .any ops Q (Held T w0 rs J) ops.size (Array.replicate ops.size false) a w') : (Code.region id ops true).wp P Q a w :=
  wp_region_held_drew hm (hI.drew.held fun _ _ => rfl) fun hS => h _ hI.drew (Below.drew (Below.refl _ _)) hS
end
theorem doJob_lensP (xs : List Val) (es : List Entry) (s : ByteArray) (l : List Int) (fuel : Int) (h : xs.length < 9223372036854775807) : (doJob xs es s l fuel).1.out.length < 9223372036854775807 ∧ (doJob xs es s l fuel).2.length < 9223372036854775807 := by
  have h1 := runF_lens (enterF xs es s l).1 fuel
  unfold doJob
  dsimp only
  split
  · exact ⟨(by show (0 : Nat) < 9223372036854775807; decide), h⟩
  · split
    · exact ⟨(by show (0 : Nat) < 9223372036854775807; decide), h⟩
    · exact ⟨h1.2.2, h1.1⟩
theorem MemW.lt {xs : List Val} (h : MemW xs) : xs.length < 9223372036854775807 := by have := h.big; omega
theorem playF_lens {xs : List Val} (h : MemW xs) (es : List Entry) (l : List JobA) : ∀ k, ∀ d ∈ (playF xs es (l.take k)).1, d.out.length < 9223372036854775807
  | 0 => fun d hd => by rw [List.take_zero, playF_nil] at hd; cases hd
  | k + 1 => by
    cases hx : l[k]? with
    | none => rw [List.take_add_one, hx, Option.toList_none, List.append_nil]; exact playF_lens h es l k
    | some x =>
      rw [playF_next hx]
      intro d hd
      rcases List.mem_append.1 hd with h1 | h1
      · exact playF_lens h es l k d h1
      · rw [List.mem_singleton.1 h1]
        exact (doJob_lensP _ es x.s x.l x.n (playF_memW h es l k).lt).1
set_option maxHeartbeats 1000000 in
theorem enterPlays_large (A E Ap L : Option Addr) (c e np cp lc n' ne n : Nat) (w : World) (hn : 60 < n) :
    Calls Tryz.prog 11 #[.agg #[.slice A n' c, .slice Ap np cp, .slice E ne e], .slice L n lc] w (Ret (.bool true) w) := by
  obtain ⟨cs, hmk⟩ := make_61
  have HMK := Lib.hid hmk
  clear hmk
  have hI := Inv.start w
  go_enter Tryz.func11, Tryz.ntmps11
  go_wp2_with (first
    | ((with_reducible refine at_box ?_); first | (refine listI rfl fun K hK => wpI_box _ _ rfl hI rfl fun gx w' hI' hb => hK _ _ ?_; clear hK K; (try replace HM1 := Lib.hid (HM1.out.grow hb)); (try replace HM2 := Lib.hid (HM2.out.grow hb)); (try replace HM3 := Lib.hid (HM3.out.grow hb)); (try replace HM4 := Lib.hid (HM4.out.grow hb)); (try clear hb); replace hI := hI'; clear hI'; replace cF := hI.facts; (try simp only [mm, Act.put, Act.eval] at hI cF)) | (refine listI rfl fun K hK => wpI_box1 _ _ rfl hI rfl rfl fun gx w' hI' hb => hK _ _ ?_; clear hK K; (try replace HM1 := Lib.hid (HM1.out.grow hb)); (try replace HM2 := Lib.hid (HM2.out.grow hb)); (try replace HM3 := Lib.hid (HM3.out.grow hb)); (try replace HM4 := Lib.hid (HM4.out.grow hb)); (try clear hb); replace hI := hI'; clear hI'; replace cF := hI.facts; (try simp only [mm, Act.put, Act.eval] at hI cF)))
    | (go_at_call 24; (with_reducible refine (c_Play_large A E Ap L c e np cp lc _ n n' ne hn).mono ?_); intro e w' hr; obtain ⟨rfl, hb⟩ := hr; have hI' := hI.on hb; (try replace HM1 := Lib.hid (HM1.out.grow hb)); (try replace HM2 := Lib.hid (HM2.out.grow hb)); (try replace HM3 := Lib.hid (HM3.out.grow hb)); (try replace HM4 := Lib.hid (HM4.out.grow hb)); (try clear hb); replace hI := hI'; clear hI'; replace cF := hI.facts; (try simp only [mm, Act.put, Act.eval] at hI cF))
    | fail)
  (refine wp_region_K [0] (by kernel_rfl) hI fun w' hI' hHeld => ?_; (try replace HM1 := Lib.hid (HM1.out.grow hb)); (try replace HM2 := Lib.hid (HM2.out.grow hb)); (try replace HM3 := Lib.hid (HM3.out.grow hb)); (try replace HM4 := Lib.hid (HM4.out.grow hb)); (try clear hb); replace hI := hI'; clear hI'; replace cF := hI.facts; (try simp only [mm, Act.put, Act.eval] at hI cF))
  (refine tk 0 ?_; (try simp only [np, Act.put]))
  refine oneH (i := 1) (by kernel_rfl) rfl (fun K hK => ?_)
  (refine stepI rfl (wpI_make HMK.out _ _ rfl rfl rfl hI fun gm w' hI' hb => hK.out _ _ (hI'.held (by simp)) (fun hHeld => ?_)); clear hK K; (try replace HM1 := Lib.hid (HM1.out.grow hb)); (try replace HM2 := Lib.hid (HM2.out.grow hb)); (try replace HM3 := Lib.hid (HM3.out.grow hb)); (try replace HM4 := Lib.hid (HM4.out.grow hb)); (try clear hb); replace hI := hI'; clear hI'; replace cF := hI.facts; (try simp only [mm, Act.put, Act.eval] at hI cF); (try simp only [np, Act.put]))
  refine oneH (i := 2) (by kernel_rfl) rfl (fun K hK => ?_)
  (go_simp; refine (c_Play_large A E Ap _ c e np cp 61 _ 61 n' ne (by decide)).mono ?_; intro e w' hr; obtain ⟨rfl, hb⟩ := hr; have hI' := hI.on hb; refine hK.out _ _ (hI'.held (by simp)) (fun hHeld => ?_); clear hK K; (try replace HM1 := Lib.hid (HM1.out.grow hb)); (try replace HM2 := Lib.hid (HM2.out.grow hb)); (try replace HM3 := Lib.hid (HM3.out.grow hb)); (try replace HM4 := Lib.hid (HM4.out.grow hb)); (try clear hb); replace hI := hI'; clear hI'; replace cF := hI.facts; (try simp only [mm, Act.put, Act.eval] at hI cF); (try simp only [np, Act.put]))
  (refine tk 3 ?_; (try simp only [np, Act.put])); (refine tk 4 ?_; (try simp only [np, Act.put])); (refine tk 5 ?_; (try simp only [np, Act.put])); (refine tk 6 ?_; (try simp only [np, Act.put])); (refine tk 7 ?_; (try simp only [np, Act.put])); (refine tk 8 ?_; (try simp only [np, Act.put])); (refine tk 9 ?_; (try simp only [np, Act.put]))
  refine wpAnyH_done (by kernel_rfl) ?_ _
  clear hHeld
  go_wp2_with fail
  go_returns
  exact Ret.bool rfl hI.below
set_option maxHeartbeats 1000000 in
theorem enterPlays_walk (A E Ap L : Option Addr) (c e np cp lc : Nat) (xs : List Val) (es : List Entry) (l : List JobA) (w : World) (he : es.length ≤ e) (he' : e ≤ maxLen) (hwe : ∀ (i : Nat) v, es[i]? = some v → Entry.Wf v)
    (hE : Env w) (hW : MemW xs) (hL : Lies encV 7 w w.heap.size A xs) (hM : Lies encE 11 w w.heap.size E es) (hJ : JobsV w w.heap.size L l) :
    Calls Tryz.prog 11 #[.agg #[.slice A xs.length c, .slice Ap np cp, .slice E es.length e], .slice L l.length lc] w (Ret (.bool true) w) := by
  by_cases hn : 60 < l.length
  · exact enterPlays_large A E Ap L c e np cp lc _ _ _ w hn
  have hl : l.length ≤ 60 := by omega
  clear hn
  have h1 := fun W hE hL hM hJ => c_Play A E Ap L c e np cp lc xs es l W (Nat.le_trans he he') hl hE hW hL hM hJ
  have h2 := fun W hE hL hM hJ => r_Play A E Ap L c e np cp lc xs es l W he he' hl hwe hE hW hL hM hJ
  have hs := playF_lens hW es l l.length
  have hy := (playF_memW hW es l l.length).lt
  have hp := playF_len xs es l l.length (Nat.le_refl _)
  rw [List.take_length] at hs hy hp
  have hl0 := hl
  rw [← hp] at hl
  have HL := Lib.hid hL
  have HM := Lib.hid hM
  have HJ := Lib.hid hJ
  have HE := Lib.hid hE
  clear hL hM hJ hE hwe hW hp
  generalize playF xs es l = q at h1 h2 hs hy hl
  obtain ⟨p, ys⟩ := q
  have H1 := Lib.hid h1
  have H2 := Lib.hid h2
  have HS := Lib.hid hs
  have HY := Lib.hid hy
  have HLE := Lib.hid hl
  clear h1 h2 hs hy hl
  obtain ⟨cs, hmk⟩ := make_61
  have HMK := Lib.hid hmk
  clear hmk
  have hI := Inv.start w
  go_enter Tryz.func11, Tryz.ntmps11
  go_wp2_with (first
    | ((with_reducible refine at_box ?_); first | (refine listI rfl fun K hK => wpI_box _ _ rfl hI rfl fun gx w' hI' hb => hK _ _ ?_; clear hK K; (try replace HM1 := Lib.hid (HM1.out.grow hb)); (try replace HM2 := Lib.hid (HM2.out.grow hb)); (try replace HM3 := Lib.hid (HM3.out.grow hb)); (try replace HM4 := Lib.hid (HM4.out.grow hb)); (try clear hb); replace hI := hI'; clear hI'; replace cF := hI.facts; (try simp only [mm, Act.put, Act.eval] at hI cF)) | (refine listI rfl fun K hK => wpI_box1 _ _ rfl hI rfl rfl fun gx w' hI' hb => hK _ _ ?_; clear hK K; (try replace HM1 := Lib.hid (HM1.out.grow hb)); (try replace HM2 := Lib.hid (HM2.out.grow hb)); (try replace HM3 := Lib.hid (HM3.out.grow hb)); (try replace HM4 := Lib.hid (HM4.out.grow hb)); (try clear hb); replace hI := hI'; clear hI'; replace cF := hI.facts; (try simp only [mm, Act.put, Act.eval] at hI cF)))
    | (go_at_call 24; refine (H1.out _ (HE.out.inv hI) (hI.lies HL.out) (hI.lies HM.out) (HJ.out.grow hI.below)).mono ?_; rintro e w' ⟨O1, o1, A1, k1, ds1, rfl, hd1, hv1, hl1, hb⟩; have hI' := hI.on hb; (try replace HM1 := Lib.hid (HM1.out.grow hb)); (try replace HM2 := Lib.hid (HM2.out.grow hb)); (try replace HM3 := Lib.hid (HM3.out.grow hb)); (try replace HM4 := Lib.hid (HM4.out.grow hb)); (try clear hb); replace hI := hI'; clear hI'; replace cF := hI.facts; (try simp only [mm, Act.put, Act.eval] at hI cF); have HM1 := Lib.hid hv1; have HM2 := Lib.hid hl1; have HD1 := Lib.hid hd1; have HQ1 := Lib.hid (show ds1.length ≤ 60 by have h := congrArg List.length hd1; rw [List.length_map] at h; rw [h]; exact HLE.out); have HS1 := Lib.hid (show ∀ x ∈ ds1, x.d.out.length < 9223372036854775807 from fun x hx => HS.out _ (hd1 ▸ List.mem_map_of_mem hx)); clear hv1 hl1 hd1 H1)
    | fail)
  (refine wp_region_KB [0] (by kernel_rfl) hI fun w' hI' hb hHeld => ?_; (try replace HM1 := Lib.hid (HM1.out.grow hb)); (try replace HM2 := Lib.hid (HM2.out.grow hb)); (try replace HM3 := Lib.hid (HM3.out.grow hb)); (try replace HM4 := Lib.hid (HM4.out.grow hb)); (try clear hb); replace hI := hI'; clear hI'; replace cF := hI.facts; (try simp only [mm, Act.put, Act.eval] at hI cF))
  (refine tk 0 ?_; (try simp only [np, Act.put]))
  refine oneH (i := 1) (by kernel_rfl) rfl (fun K hK => ?_)
  (refine stepI rfl (wpI_make HMK.out _ _ rfl rfl rfl hI fun gm w' hI' hb => hK.out _ _ (hI'.held (by simp)) (fun hHeld => ?_)); clear hK K; (try replace HM1 := Lib.hid (HM1.out.grow hb)); (try replace HM2 := Lib.hid (HM2.out.grow hb)); (try replace HM3 := Lib.hid (HM3.out.grow hb)); (try replace HM4 := Lib.hid (HM4.out.grow hb)); (try clear hb); replace hI := hI'; clear hI'; replace cF := hI.facts; (try simp only [mm, Act.put, Act.eval] at hI cF); (try simp only [np, Act.put]))
  refine oneH (i := 2) (by kernel_rfl) rfl (fun K hK => ?_)
  (go_simp; refine (c_Play_large A E Ap _ c e np cp 61 _ 61 xs.length es.length (by decide)).mono ?_; intro e w' hr; obtain ⟨rfl, hb⟩ := hr; have hI' := hI.on hb; refine hK.out _ _ (hI'.held (by simp)) (fun hHeld => ?_); clear hK K; (try replace HM1 := Lib.hid (HM1.out.grow hb)); (try replace HM2 := Lib.hid (HM2.out.grow hb)); (try replace HM3 := Lib.hid (HM3.out.grow hb)); (try replace HM4 := Lib.hid (HM4.out.grow hb)); (try clear hb); replace hI := hI'; clear hI'; replace cF := hI.facts; (try simp only [mm, Act.put, Act.eval] at hI cF); (try simp only [np, Act.put]))
  (refine tk 3 ?_; (try simp only [np, Act.put])); (refine tk 4 ?_; (try simp only [np, Act.put])); (refine tk 5 ?_; (try simp only [np, Act.put])); (refine tk 6 ?_; (try simp only [np, Act.put])); (refine tk 7 ?_; (try simp only [np, Act.put])); (refine tk 8 ?_; (try simp only [np, Act.put])); (refine tk 9 ?_; (try simp only [np, Act.put]))
  refine wpAnyH_done (by kernel_rfl) ?_ _
  clear hHeld
  have hdk : decide (60 < l.length) = false := by simp; omega
  go_wp2_with (first
    | (go_at_call 25; refine (H2.out _ (HE.out.inv hI) (hI.lies HL.out) (hI.lies HM.out) (HJ.out.grow hI.below)).mono ?_; rintro e w' ⟨O2, o2, A2, k2, ds2, rfl, hd2, hv2, hl2, hb⟩; have hI' := hI.on hb; (try replace HM1 := Lib.hid (HM1.out.grow hb)); (try replace HM2 := Lib.hid (HM2.out.grow hb)); (try replace HM3 := Lib.hid (HM3.out.grow hb)); (try replace HM4 := Lib.hid (HM4.out.grow hb)); (try clear hb); replace hI := hI'; clear hI'; replace cF := hI.facts; (try simp only [mm, Act.put, Act.eval] at hI cF); have HM3 := Lib.hid hv2; have HM4 := Lib.hid hl2; have HD2 := Lib.hid hd2; clear hv2 hl2 hd2 H2)
    | (go_at_call 26; (with_reducible refine (r_DonesSame O1 O2 o1 o2 ds1 ds2 _ (HD1.out.trans HD2.out.symm) HQ1.out HS1.out HM1.out HM3.out).mono ?_); intro e w' hr; obtain ⟨rfl, hb⟩ := hr; have hI' := hI.on hb; (try replace HM1 := Lib.hid (HM1.out.grow hb)); (try replace HM2 := Lib.hid (HM2.out.grow hb)); (try replace HM3 := Lib.hid (HM3.out.grow hb)); (try replace HM4 := Lib.hid (HM4.out.grow hb)); (try clear hb); replace hI := hI'; clear hI'; replace cF := hI.facts; (try simp only [mm, Act.put, Act.eval] at hI cF))
    | (go_at_call 23; (with_reducible refine (r_Eq_V A1 A2 k1 k2 ys ys _ HY.out HM2.out HM4.out).mono ?_); intro e w' hr; obtain ⟨rfl, hb⟩ := hr; have hI' := hI.on hb; (try replace HM1 := Lib.hid (HM1.out.grow hb)); (try replace HM2 := Lib.hid (HM2.out.grow hb)); (try replace HM3 := Lib.hid (HM3.out.grow hb)); (try replace HM4 := Lib.hid (HM4.out.grow hb)); (try clear hb); replace hI := hI'; clear hI'; replace cF := hI.facts; (try simp only [mm, Act.put, Act.eval] at hI cF))
    | fail)
  go_returns
  exact Ret.bool rfl hI.below
theorem enterPlays_reads (os : Os) {H : Type} (enc : TypeId × Value → H) : ∃ places, DataW.whole enc Tryz.prog ((laidWorld os).forCall (fun _ _ => 0) ⟨#[], #[.agg #[.slice none 0 0, .slice none 0 0, .slice none 0 0], .slice none 0 0], []⟩).memory Tryz.f11.params.toList Rows.enterPlaysSpec.vars false #[.agg #[.slice none 0 0, .slice none 0 0, .slice none 0 0], .slice none 0 0].toList 8 = some ([.agg [.nil, .nil, .nil], .nil], [], places) :=
  ⟨[], by kernel_rfl⟩
theorem enterPlays_open {H : Type} (enc : TypeId × Value → H) (W : World) (base : Nat) (args : Array Value) (ds : List (DataW H)) (ps : List MemPlace)
    (hval : ∀ (j : Nat) t v, Tryz.f11.params[j]? = some t → args[j]? = some v → Value.okWide Tryz.prog W .any base t v)
    (hA : DataW.TrodAll enc Tryz.prog W 0 (fun _ => true) true Tryz.f11.params.toList args.toList ds ps) (hlt : ∀ x ∈ ps, x.block < W.heap.size)
    (hsz : (DataW.weightsEach Tryz.prog Tryz.f11.params.toList ds).all (· ≤ reachBytes) = true) (hE : Env W) :
    Calls Tryz.prog 11 args W fun e W' => e = .returned (.bool true) ∧ Below W.heap.size W W' := by
  rw [Tryz.params11] at hA hval hsz
  obtain ⟨v0, v1, d0, d1, p0, p1, hargs, rfl, rfl, h0, h1⟩ := trodAll_two hA
  subst hargs
  obtain ⟨A, c, xs, x1, E, e, es, rfl, hP, y1, y2, y3, y4, k1, k2, k3, k4⟩ := open_image (hval 0 _ v0 rfl rfl) h0
  obtain ⟨L, lc, l, rfl, l1, l2, l3⟩ := open_jobs (hval 1 _ v1 rfl rfl) h1
  obtain ⟨Ap, np, cp, rfl⟩ := hP
  have hw : (d0.weights Tryz.prog 49).all (· ≤ reachBytes) = true := List.all_eq_true.2 fun q hq => List.all_eq_true.1 hsz q (DataW.weights_mem_each (j := 0) rfl rfl q hq)
  have h56 := image_weight h0 hw
  exact (enterPlays_walk A E Ap L c e np cp lc xs es l W k1 k2 k3 hE ⟨Nat.le_trans y1 y2, Nat.le_trans h56 (Nat.le_of_lt (Nat.lt_of_lt_of_le reachBytes_lt (by decide))), y3⟩ y4 k4 l3).mono fun e W' hr => hr
set_option maxRecDepth 100000 in
theorem enterPlays_lifted (os : Os) (started : os.Started) (H : Type) (enc : TypeId × Value → H) (F : Stop.Interp) :
    ReturnsInHanded {} Tryz.checked os 11 .any ((OpenSpec.ofChange Rows.enterPlaysSpec).preRow enc Tryz.prog Tryz.f11 [] false laidAll) (((OpenSpec.ofChange Rows.enterPlaysSpec).at F).post enc Tryz.prog Tryz.f11 false true false false) := by
  obtain ⟨places, hx⟩ := enterPlays_reads os enc
  exact liftedLS (C := Tryz.checked) (s := Rows.enterPlaysSpec) own started (by kernel_rfl) Tryz.func11
    (witness_row_atRef (enc := enc) (C := Tryz.checked) false (laidWorld os) #[.agg #[.slice none 0 0, .slice none 0 0, .slice none 0 0], .slice none 0 0] rfl (by kernel_rfl) (by kernel_rfl) (by kernel_rfl)
      (OpenSpec.preRow_of_cond 8 hx (by kernel_rfl) (fun k hk => by cases hk) (by kernel_rfl) (laid_met os _)))
    (by kernel_rfl) (by kernel_rfl) rfl rfl Tryz.underlying4
    (fun ds h => by match ds, h with | [_, _], _ => exact ⟨rfl, rfl, rfl⟩)
    (fun W base args ds ps hval hA hlt hsz hL hSh => enterPlays_open enc W base args ds ps hval hA hlt hsz (env_of hL hSh))
theorem enterPlays_said : Rows.EnterPlaysSaid :=
  OpenClaim.holds_of_cond 11 Tryz.f11 rfl rfl rfl rfl rfl rfl rfl ⟨rfl, rfl, rfl, rfl, rfl⟩ rfl rfl rfl rfl rfl (by kernel_rfl) Tryz.func11 (by kernel_rfl)
    (of_decide_eq_true (by kernel_rfl)) (by unfold Func.isWrapper; first | (rw [if_pos (by decide +kernel)]; kernel_rfl) | (rw [if_neg (by decide +kernel)]; exact ⟨rfl, rfl⟩))
    (fun os started H enc _ F => by rw [OpenClaim.pre_eq_preRow]; exact enterPlays_lifted os started H enc F)
theorem enterPlays_plain (f : FuncId) (fn : Func) (hf : Tryz.pinned.checked.prog.funcNamed "custodian/custodianlaw.EnterPlays" = some f) (hfn : Tryz.pinned.checked.prog.funcs[f]? = some fn) :
    true = Tryz.pinned.checked.prog.looks [] ∧ ∀ (j : Nat) t, fn.params[j]? = some t → Tryz.pinned.checked.prog.wantsStandIn t = false := by
  obtain rfl : f = 11 := Option.some.inj ((show Tryz.prog.funcNamed "custodian/custodianlaw.EnterPlays" = some 11 by kernel_rfl).symm.trans hf) |>.symm
  obtain rfl : fn = Tryz.f11 := (Option.some.inj (Tryz.func11.symm.trans hfn)).symm
  refine ⟨by kernel_rfl, fun j t ht => ?_⟩
  rw [Tryz.params11] at ht
  have h := Array.mem_of_getElem? ht
  simp only [List.mem_toArray, List.mem_cons, List.not_mem_nil, or_false] at h
  rcases h with h | h <;> exact (show Tryz.pinned.checked.prog.wantsStandIn t = false by rw [h]; kernel_rfl)
theorem enterPlays_holds : Rows.EnterPlaysCardSaid :=
  Claim7.holds_tied_plain_at .later [] _ _ _ _ enterPlays_said (fun _ h => by cases h) (by kernel_rfl) (fun _ h => by cases h) enterPlays_row_tie rfl ⟨rfl, rfl⟩ (by kernel_rfl) rfl enterPlays_plain (by kernel_rfl)
#print axioms enterPlays_holds
end Go.Proofs.YthmpnnfejghhfaaGreatDoor
