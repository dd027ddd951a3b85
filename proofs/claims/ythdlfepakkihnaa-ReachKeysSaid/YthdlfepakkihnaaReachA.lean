/- slices.Collect over the keys of a set: a row of just these. Conditions: none. -/
import Derived.Test.YthdlfepakkihnaaReachK
import Derived.Test.YthdlfepakkihnaaReachQ
namespace Go.Proofs.Ythdlfepakkihnaa
open Go Go.RowKit Go.Shelf
set_option linter.unusedVariables false
set_option linter.unusedSimpArgs false
set_option maxRecDepth 100000
theorem wp_inK {l n : Nat} {P : Program} {o : Oper} {a : Act} {w : World} {K : Act → World → Prop} {Q : Exit → Act → World → Prop} (hd : ∀ c, o.op ≠ .defer c) (h : o.wp P a w K Q) : o.wpIn (Fence.wide.inRound l) n P a w K Q := by
  refine ⟨fun _ _ => trivial, ?_⟩
  rw [Oper.semAt_plain _ _ _ hd]
  unfold Oper.wp at h
  generalize (execOp a.eval o).run P w = r at *
  cases r with
  | ok x w' =>
    cases x <;> simp only [Oper.upon, Oper.uponIn] at h ⊢ <;>
      first
        | exact h
        | exact ⟨(fun h => by cases h), CallsIn.inRound l (callsIn_wide.2 h)⟩
        | exact ⟨(fun h => by cases h), fun c cs _ => let ⟨v, w1, r, s⟩ := h c cs; ⟨v, w1, r, stepsIn_wide.2 s⟩⟩
  | halt x w' => cases x <;> simp only [Oper.upon, Oper.uponIn] at h ⊢ <;> exact h
theorem listNK {l n : Nat} {P : Program} {ops : Array Oper} {Q : Exit → Act → World → Prop} {a : Act} {w : World} {rest : List Oper} {o : Oper} (hg : o.guard = none) (hd : ∀ c, o.op ≠ .defer c)
    (h : ∀ K, (∀ a w, wpListIn (Fence.wide.inRound l) n P ops Q rest a w → K a w) → o.wp P a w K Q) : wpListIn (Fence.wide.inRound l) n P ops Q (o :: rest) a w :=
  wpListIn_plain hg fun K hK => wp_inK hd (h K hK)
attribute [local go_sem] Oper.semAt_some
theorem getK_at {rs rsN : List Res} {r : Res} : (rs ++ r :: rsN)[rs.length]? = some r := by
  rw [List.getElem?_append_right (Nat.le_refl _), Nat.sub_self]; rfl
theorem perm_midK (own objs : List Res) (a b k : Res) : (own ++ ([a, b] ++ objs) ++ [k]).Perm (a :: b :: k :: (own ++ objs)) := by
  refine (List.perm_append_singleton k _).trans ?_
  have e1 : (own ++ (a :: b :: objs)).Perm (a :: b :: (own ++ objs)) := List.perm_middle.trans (List.Perm.cons _ List.perm_middle)
  exact (List.Perm.cons k e1).trans ((List.Perm.swap ..).trans (List.Perm.cons _ (List.Perm.swap ..)))
/-- what Collect hands back -/
def RetColl (T : Nat → Prop) (w : World) (S : List Key) : Ending → World → Prop := fun e w' => ∃ (v : Value) (L : List Key) (o1 o2 o3 : Res), e = .returned v ∧ L.Nodup ∧ (∀ x, x ∈ L ↔ x ∈ S) ∧ InvT T w [o1, o2, o3, .row 23 5 v L.length (L.flatMap encK)] w'
set_option maxHeartbeats 4000000 in
theorem c_AppendSeq (T : Nat → Prop) (gb g : Nat) (S : List Key) (hS : S.Nodup) (hS5 : S.length ≤ 500) (w : World) (hI : InvT T w [.box gb 117 #[.map (some g)], .obj g (setKO S)] w) :
    Calls Try.prog 94 #[.slice none 0 0, .func (.func 81) #[] #[.pointer (some ⟨gb, 0, none⟩)]] w (RetColl T w S) := by
  refine (callsIn_wide (n := 6)).1 ?_
  refine callsIn_of_wp_marks Try.func94 rfl trivial ?_ rfl
  refine wpIn_wide.2 ?_
  simp only [Try.ntmps94, List.size_toArray, List.length_cons, List.length_nil, Nat.reduceAdd, Nat.reduceSub, Array.replicate_succ, Array.replicate_zero, List.push_toArray, List.append_toArray, List.nil_append, List.cons_append]
  go_wp2_with (first | ((first | (refine listI rfl fun K hK => wpI_box _ _ rfl hI rfl fun gx w' hI' hb => hK _ _ ?_; clear hK K; (try replace HM1 := Lib.hid (HM1.out.grow hb)); (try replace HM2 := Lib.hid (HM2.out.grow hb)); (try replace HM3 := Lib.hid (HM3.out.grow hb)); (try replace HM4 := Lib.hid (HM4.out.grow hb)); (try clear hb); clear hI; have hI := hI'; clear hI'; (try simp only [List.cons_append, List.nil_append, List.set_cons_zero, List.set_cons_succ, List.setIfInBounds_toArray, Act.put, Act.eval, Array.getD_eq_getD_getElem?, List.getElem?_toArray, List.getElem?_cons_zero, List.getElem?_cons_succ, Option.getD_some] at hI); (try clear c0); (try clear c1); (try clear c2); (try clear c3); (try clear c4); (try clear c5); (try clear c6); (try clear c7); (try clear c8); (try clear c9); (try clear c10); (try clear c11); (try have c0 := hI.cell (i := 0) rfl); (try have c1 := hI.cell (i := 1) rfl); (try have c2 := hI.cell (i := 2) rfl); (try have c3 := hI.cell (i := 3) rfl); (try have c4 := hI.cell (i := 4) rfl); (try have c5 := hI.cell (i := 5) rfl); (try have c6 := hI.cell (i := 6) rfl); (try have c7 := hI.cell (i := 7) rfl); (try have c8 := hI.cell (i := 8) rfl); (try have c9 := hI.cell (i := 9) rfl); (try have c10 := hI.cell (i := 10) rfl); (try have c11 := hI.cell (i := 11) rfl); skip) | (refine listI rfl fun K hK => wpI_box1 _ _ rfl hI rfl rfl fun gx w' hI' hb => hK _ _ ?_; clear hK K; (try replace HM1 := Lib.hid (HM1.out.grow hb)); (try replace HM2 := Lib.hid (HM2.out.grow hb)); (try replace HM3 := Lib.hid (HM3.out.grow hb)); (try replace HM4 := Lib.hid (HM4.out.grow hb)); (try clear hb); clear hI; have hI := hI'; clear hI'; (try simp only [List.cons_append, List.nil_append, List.set_cons_zero, List.set_cons_succ, List.setIfInBounds_toArray, Act.put, Act.eval, Array.getD_eq_getD_getElem?, List.getElem?_toArray, List.getElem?_cons_zero, List.getElem?_cons_succ, Option.getD_some] at hI); (try clear c0); (try clear c1); (try clear c2); (try clear c3); (try clear c4); (try clear c5); (try clear c6); (try clear c7); (try clear c8); (try clear c9); (try clear c10); (try clear c11); (try have c0 := hI.cell (i := 0) rfl); (try have c1 := hI.cell (i := 1) rfl); (try have c2 := hI.cell (i := 2) rfl); (try have c3 := hI.cell (i := 3) rfl); (try have c4 := hI.cell (i := 4) rfl); (try have c5 := hI.cell (i := 5) rfl); (try have c6 := hI.cell (i := 6) rfl); (try have c7 := hI.cell (i := 7) rfl); (try have c8 := hI.cell (i := 8) rfl); (try have c9 := hI.cell (i := 9) rfl); (try have c10 := hI.cell (i := 10) rfl); (try have c11 := hI.cell (i := 11) rfl); skip)); obtain ⟨gs, rfl⟩ : ∃ y, y = gx := ⟨_, rfl⟩) | fail)
  have hI1 := InvT.cast (hI.nilrow 23 5) (rs' := [.box gb 117 #[.map (some g)], .obj g (setKO S)] ++ [.box gs 67 #[.slice none 0 0], .row 23 5 (.slice none 0 0) 0 []]) rfl
  clear hI
  (try clear c0 c2)
  refine (wpIn_wide (n := 6)).1 ?_
  refine wpIn_rangeFunc_his (n := 6) rfl (by omega) (gf := 81) (lb := #[.pointer (some ⟨gb, 0, none⟩)]) rfl trivial (enters_of Try.func81 (by kernel_rfl) rfl) (keys_seq 5 (by omega) T w gb g S hS) (fun _ => rfl)
    (fun h rsB => h.Nodup ∧ (∀ x ∈ h, x ∈ S) ∧ ∃ v, rsB = [.box gs 67 #[v], .row 23 5 v h.length (h.flatMap encK)]) ⟨by simp, by simp, _, rfl⟩ hI1 (fun x a1 rsN => ∃ gk, rsN = [.box gk 23 #[.int .i64 x.perm, .int .i64 x.base, .int .i64 x.len, .int .i64 x.pos, .int .i64 x.tag]] ∧ a1 = ⟨#[.slice none 0 0, .func (.func 81) #[] #[.pointer (some ⟨gb, 0, none⟩)], .pointer (some ⟨gs, 0, none⟩), undef, .slice none 0 0, .pointer (some ⟨gk, 0, none⟩), .func (.func 81) #[] #[.pointer (some ⟨gb, 0, none⟩)], .agg #[.int .i64 x.perm, .int .i64 x.base, .int .i64 x.len, .int .i64 x.pos, .int .i64 x.tag], undef, undef, undef, undef, undef], []⟩) (fun x => #[.slice none 0 0, .func (.func 81) #[] #[.pointer (some ⟨gb, 0, none⟩)], .pointer (some ⟨gs, 0, none⟩), undef, .slice none 0 0, undef, .func (.func 81) #[] #[.pointer (some ⟨gb, 0, none⟩)], .agg #[.int .i64 x.perm, .int .i64 x.base, .int .i64 x.len, .int .i64 x.pos, .int .i64 x.tag], undef, undef, undef, undef, undef]) (fun x => by simp) ?assign ?body ?done
  case assign =>
    intro l x W rs K hI hK0
    gi_wp2_with (first
      | (refine listNK rfl (fun c h => by cases h) fun K hK => wpI_alloc 23 rfl hI Try.zeroValue23 (cs := #[.int .i64 0, .int .i64 0, .int .i64 0, .int .i64 0, .int .i64 0]) (by first | rfl | kernel_rfl) fun gk w' hI' hb => hK _ _ ?_; clear hK K hI hb; have hI := hI'.toFront; clear hI')
      | (refine listNK rfl (fun c h => by cases h) fun K hK => wpI_storeW _ _ _ rfl hI rfl 0 rfl rfl rfl (by kernel_rfl) (by simp [Value.oneCell']) fun w' hI' => hK _ _ ?_; clear hK K hI; have hI := hI'; clear hI'; simp only [List.set_cons_zero] at hI)
      | fail)
    exact hK0 _ _ _ ⟨gk, rfl, rfl⟩ (hI.perm (List.perm_append_singleton ..).symm)
  case body =>
    rintro l k x own rsB objs rsN a1 W ⟨hxS, hxk⟩ ⟨hnd, hsub, v, rfl⟩ ⟨gk, rfl, rfl⟩ hI
    have hkS : k.length ≤ S.length := hnd.length_le_of_subset fun y hy => hsub y hy
    have hk5 : k.length ≤ 500 := by omega
    have hI2 := (InvT.perm hI (rs' := .box gs 67 #[v] :: .row 23 5 v k.length (k.flatMap encK) :: .box gk 23 #[.int .i64 x.perm, .int .i64 x.base, .int .i64 x.len, .int .i64 x.pos, .int .i64 x.tag] :: (own ++ objs)) (by
      rw [List.append_assoc own]
      exact perm_midK _ _ _ _ _))
    clear hI
    have hI := hI2
    clear hI2
    have c0 := hI.cell (i := 0) rfl
    have c2 := hI.cell (i := 2) rfl
    gi_wp2_with (first
      | (refine listNK rfl (fun c h => by cases h) fun K hK => wpI_slice1 67 23 _ rfl hI Try.underlying67 rfl (size := 5) (by kernel_rfl) rfl fun gl w2 hI2 hb => hK _ _ ?_; clear hK K; have hI3 := hI2.toFront; clear hI2 hI hb; have hI := hI3; clear hI3; (try simp only [List.cons_append, List.nil_append, List.set_cons_zero, List.set_cons_succ, List.setIfInBounds_toArray, Act.put, Act.eval, Array.getD_eq_getD_getElem?, List.getElem?_toArray, List.getElem?_cons_zero, List.getElem?_cons_succ, Option.getD_some] at hI); have c0 := hI.cell (i := 1) rfl)
      | (refine listNK rfl (fun c h => by cases h) fun K hK => wpI_app (t := 67) _ _ rfl el_K hI 2 rfl rfl (ys := [x]) rfl (hI.lies1 (i := 0) rfl _ (fun j hj => by rw [List.getElem?_toArray]; rfl)) rfl (by unfold maxLen; simp only [List.length_cons, List.length_nil]; omega) (by simp only [List.length_cons, List.length_nil]; omega) fun v' w3 hI3 => hK _ _ ?_; clear hK K hI; have hI := hI3; clear hI3; simp only [List.set_cons_succ, List.set_cons_zero] at hI; (try simp only [List.cons_append, List.nil_append, List.set_cons_zero, List.set_cons_succ, List.setIfInBounds_toArray, Act.put, Act.eval, Array.getD_eq_getD_getElem?, List.getElem?_toArray, List.getElem?_cons_zero, List.getElem?_cons_succ, Option.getD_some] at hI))
      | (refine listNK rfl (fun c h => by cases h) fun K hK => wpI_store1 _ _ _ rfl hI rfl 1 rfl rfl (hI.one (i := 2) rfl) (by simp) (by kernel_rfl) fun w4 hI4 => hK _ _ ?_; clear hK K hI; have hI := hI4; clear hI4; simp only [List.set_cons_succ, List.set_cons_zero] at hI; (try simp only [List.cons_append, List.nil_append, List.set_cons_zero, List.set_cons_succ, List.setIfInBounds_toArray, Act.put, Act.eval, Array.getD_eq_getD_getElem?, List.getElem?_toArray, List.getElem?_cons_zero, List.getElem?_cons_succ, Option.getD_some] at hI))
      | fail)
    refine ⟨[.box gs 67 #[v'], .row 23 5 v' (k.length + 1) (k.flatMap encK ++ encK x)], ⟨nodup_snoc hnd hxk, fun y hy => ?_, v', rfl⟩, ?_⟩
    · rcases hy with h1 | h1
      · exact hsub y h1
      · rw [h1]; exact hxS
    · have h5 := hI.tail1
      have h6 := (h5.perm (rs' := own ++ ([.box gs 67 #[v'], .row 23 5 v' (k ++ [x]).length ((k ++ [x]).flatMap encK)] ++ objs) ++ [.box gk 23 #[.int .i64 x.perm, .int .i64 x.base, .int .i64 x.len, .int .i64 x.pos, .int .i64 x.tag]]) (perm_midK _ _ _ _ _).symm).first (own ++ ([_, _] ++ objs)) [_] rfl
      refine h6.cast ?_
      simp [List.flatMap_append]
  case done =>
    rintro D N own' rsB o W ⟨hall, o1, o2, o3, rfl⟩ ⟨hnd, hsub, v, rfl⟩ hI
    rename_i K1 hK1
    change K1 _ W
    refine hK1 _ W ?_
    clear hK1 K1
    simp only [List.cons_append, List.nil_append] at hI
    have c3 := hI.cell (i := 3) rfl
    go_wp2_with fail
    have hI3 := hI.putObj (i := 5) rfl (.deferred none)
    refine ⟨by simp, .inl ⟨_, _, rfl, run_takeDeferred (hI.ok 5 _ rfl), ?_⟩⟩
    refine ⟨v, by simp [results, Try.results94, go_sem]; try rfl, ?_⟩
    simp only [List.set_cons_succ, List.set_cons_zero] at hI3
    exact ⟨v, N, o1, o2, o3, rfl, hnd, fun x => ⟨hsub x, hall x⟩, (hI3.pickF [0, 1, 2, 4] (by decide)).cast rfl⟩
end Go.Proofs.Ythdlfepakkihnaa
