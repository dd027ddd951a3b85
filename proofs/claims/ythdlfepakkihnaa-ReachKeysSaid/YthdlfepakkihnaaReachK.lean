/- maps.Keys over a set of keys: what its iterator promises; slices.Collect. Conditions: none. -/
import Derived.Test.YthdlfepakkihnaaRangeH
import Derived.Test.YthdlfepakkihnaaReachP
import Derived.RangeFuncNested
import Derived.RangeFuncBound
import Derived.Shelf.Abstract
import Derived.Shelf.RegionOpen
import Derived.OwnWalkIn
import Derived.TacticsInMore
import Derived.LoopNIn
import Derived.LoopIn
namespace Go.Proofs.Ythdlfepakkihnaa
open Go Go.RowKit Go.Shelf
set_option linter.unusedVariables false
set_option linter.unusedSimpArgs false
set_option maxRecDepth 100000
theorem wp_wideK {n : Nat} {P : Program} {o : Oper} {a : Act} {w : World} {K : Act → World → Prop} {Q : Exit → Act → World → Prop} (hd : ∀ c, o.op ≠ .defer c) (hn : 1 ≤ n) (h : o.wp P a w K Q) : o.wpIn Fence.wide n P a w K Q := by
  refine ⟨fun _ _ => trivial, ?_⟩
  rw [Oper.semAt_plain _ _ _ hd]
  unfold Oper.wp at h
  generalize (execOp a.eval o).run P w = r at *
  cases r with
  | ok x w' =>
    cases x <;> simp only [Oper.upon, Oper.uponIn] at h ⊢ <;>
      first
        | exact h
        | exact ⟨(fun _ => hn), callsIn_wide.2 h⟩
        | exact ⟨(fun h => by cases h), fun c cs _ => let ⟨v, w1, r, s⟩ := h c cs; ⟨v, w1, r, stepsIn_wide.2 s⟩⟩
  | halt x w' => cases x <;> simp only [Oper.upon, Oper.uponIn] at h ⊢ <;> exact h
theorem listW {n : Nat} {P : Program} {ops : Array Oper} {Q : Exit → Act → World → Prop} {a : Act} {w : World} {rest : List Oper} {o : Oper} (hn : 1 ≤ n) (hg : o.guard = none) (hd : ∀ c, o.op ≠ .defer c)
    (h : ∀ K, (∀ a w, wpListIn Fence.wide n P ops Q rest a w → K a w) → o.wp P a w K Q) : wpListIn Fence.wide n P ops Q (o :: rest) a w :=
  wpListIn_plain hg fun K hK => wp_wideK hd hn (h K hK)
def seenK (w : World) (r : Nat) : Nat := match w.heap[r]? with | some (.mapIter _ _ s _) => s.size | _ => 0
theorem seenK_eq {T : Nat → Prop} {w0 w : World} {rs : List Res} (h : InvT T w0 rs w) {i r g : Nat} {l : List Key} {sn : Array Nat} (hi : rs[i]? = some (.obj r (iterO g l sn))) : seenK w r = sn.size := by
  have : w.heap[r]? = some (iterO g l sn) := h.ok i _ hi
  unfold seenK; rw [this]; rfl
theorem InvT.toFront {T : Nat → Prop} {w0 w : World} {rs : List Res} {x : Res} (h : InvT T w0 (rs ++ [x]) w) : InvT T w0 (x :: rs) w := h.perm (List.perm_append_singleton ..)
theorem InvT.tail1 {T : Nat → Prop} {w0 w : World} {rs : List Res} {x : Res} (h : InvT T w0 (x :: rs) w) : InvT T w0 rs w := (h.perm (List.perm_append_singleton ..).symm).first rs [x] rfl
theorem InvT.third {T : Nat → Prop} {w0 w : World} {rs : List Res} {x y z : Res} (h : InvT T w0 (x :: y :: rs ++ [z]) w) : InvT T w0 (x :: y :: z :: rs) w := h.perm (List.Perm.cons _ (List.Perm.cons _ (List.perm_append_singleton ..)))
set_option maxHeartbeats 4000000 in
theorem keys_seq (n : Nat) (hn : 3 ≤ n) (T : Nat → Prop) (w0 : World) (gb g : Nat) (S : List Key) (hS : S.Nodup) :
    SeqHis Fence.wide n Try.prog 81 #[.pointer (some ⟨gb, 0, none⟩)] (fun k : Key => #[.agg #[.int .i64 k.perm, .int .i64 k.base, .int .i64 k.len, .int .i64 k.pos, .int .i64 k.tag]]) (fun h x => x ∈ S ∧ ¬ x ∈ h) (fun h own' => (∀ x ∈ S, x ∈ h) ∧ ∃ o1 o2 o3, own' = [o1, o2, o3]) T w0 [.box gb 117 #[.map (some g)], .obj g (setKO S)] := by
  intro l W RX h0 hY
  obtain ⟨rsC, hRX, hI⟩ := h0
  have hn1 : 1 ≤ n := by omega
  refine callsIn_of_wp Try.func81 rfl trivial ?_ rfl
  simp only [Try.ntmps81, List.size_toArray, List.length_cons, List.length_nil, Nat.reduceAdd, Nat.reduceSub, Array.replicate_succ, Array.replicate_zero, List.push_toArray, List.append_toArray, List.nil_append, List.cons_append]
  simp only [List.cons_append, List.nil_append] at hI
  have c0 := hI.cell (i := 0) rfl
  gi_wp2_with (first
    | (refine listW hn1 rfl (fun c h => by cases h) fun K hK => wpI_keyRange _ rfl hI rfl 1 rfl fun r w' hI' hb => hK _ _ ?_; clear hK K)
    | fail)
  clear hI c0
  replace hI := hI'.third
  clear hI' hb
  gi_loopw [6] (fun _ wr => ∃ (h : List Key) (sn : Array Nat) (rsC : List Res), sn.toList.Nodup ∧ (∀ q ∈ sn, q < S.length) ∧ (∀ q k, q ∈ sn → S[q]? = some k → k ∈ h) ∧ (∀ k ∈ h, ∃ q, q ∈ sn ∧ S[q]? = some k) ∧ RX h rsC ∧ InvT T w0 (.box gb 117 #[.map (some g)] :: .obj g (setKO S) :: .obj r (iterO g S sn) :: rsC) wr) (fun _ wr => S.length - seenK wr r)
  case atStart => exact ⟨[], #[], rsC, by simp, by simp, by simp, by simp, hRX, hI⟩
  case round =>
    clear hI hRX rsC
    obtain ⟨h, sn, rsC, hnd, hlt, hin, hof, hRX, hI⟩ := hrel
    have hsz := seenK_eq hI (i := 2) rfl
    have HSZ := Lib.hid hsz
    have HND := Lib.hid hnd
    have HLT := Lib.hid hlt
    have HIN := Lib.hid hin
    have HOF := Lib.hid hof
    clear hsz hnd hlt hin hof
    gi_wp2_with (first
      | ((refine listW hn1 rfl (fun c h => by cases h) fun K hK => wpI_keyNext _ rfl hI rfl 1 2 rfl rfl (fun hall => hK _ _ ?_) (fun q k w' hqk hns hI' => hK _ _ ?_)); rotate_left; (focus (clear hK K hI; have hI := hI'; clear hI'; simp only [List.set_cons_succ, List.set_cons_zero] at hI; have HQK := Lib.hid hqk; have HNS := Lib.hid hns; clear hqk hns)))
      | (refine listW hn1 rfl (fun c h => by cases h) fun K hK => wpI_keyEntry _ rfl hI rfl 1 2 rfl rfl HQK.out (hK _ _ ?_); clear hK K)
      | (refine listW hn1 rfl (fun c h => by cases h) fun K hK => wpI_alloc 23 rfl hI Try.zeroValue23 (cs := #[.int .i64 0, .int .i64 0, .int .i64 0, .int .i64 0, .int .i64 0]) (by first | rfl | kernel_rfl) fun gk w' hI' hb => hK _ _ ?_; clear hK K hI hb; have hI := hI'.toFront; clear hI')
      | (refine listW hn1 rfl (fun c h => by cases h) fun K hK => wpI_storeW _ _ _ rfl hI rfl 0 rfl rfl rfl (by kernel_rfl) (by simp [Value.oneCell']) fun w' hI' => hK _ _ ?_; clear hK K hI; have hI := hI'; clear hI'; simp only [List.set_cons_zero] at hI; have c0 := hI.cell (i := 0) rfl)
      | fail)
    · have hI1 := InvT.cast hI.tail1 (rs' := [.box gb 117 #[.map (some g)], .obj g (setKO S), .obj r (iterO g S (sn.push q))] ++ rsC) rfl
      obtain ⟨s1, s2, s3⟩ := seen_lt HND.out HLT.out HQK.out HNS.out
      have hno : ¬ k ∈ h := fun hk => by
        obtain ⟨q', hq', he⟩ := HOF.out k hk
        have := (List.getElem?_inj (List.getElem?_eq_some_iff.1 he).1 hS).1 (he.trans HQK.out.symm)
        subst this
        exact HNS.out hq'
      have S1 := Lib.hid s1
      have S2 := Lib.hid s2
      have S3 := Lib.hid s3
      obtain ⟨fn, tmps, assign, body, hy, hR⟩ := hY h k _ rsC _ ⟨List.mem_of_getElem? HQK.out, hno⟩ hRX hI1
      clear hI hI1 hno s1 s2 s3
      (try dsimp only at hy)
      rw [hy]
      refine ⟨fun _ => by omega, hR.mono ?_⟩
      rintro ed W' ⟨rfl, rsC', hRX', hI⟩
      simp only [List.cons_append, List.nil_append] at hI
      have hsz2 := seenK_eq hI (i := 2) rfl
      have HSZ2 := Lib.hid hsz2
      clear hsz2
      gi_wp2
      go_roundw
      case rel =>
        refine ⟨h ++ [k], sn.push q, rsC', S2.out, S3.out, fun q' k' hq' he => ?_, fun k' hk' => ?_, hRX', hI⟩
        · rcases Array.mem_push.1 hq' with h1 | h1
          · exact List.mem_append_left _ (HIN.out q' k' h1 he)
          · subst h1
            rw [HQK.out] at he
            exact List.mem_append_right _ (by rw [Option.some.inj he]; exact List.mem_singleton_self _)
        · rcases List.mem_append.1 hk' with h1 | h1
          · obtain ⟨q', hq', he⟩ := HOF.out k' h1
            exact ⟨q', Array.mem_push.2 (.inl hq'), he⟩
          · rw [List.mem_singleton.1 h1]
            exact ⟨q, Array.mem_push.2 (.inr rfl), HQK.out⟩
      case measure => rw [HSZ2.out, HSZ.out, Array.size_push]; have := S1.out; omega
    · go_end0
      refine ⟨⟨_, rfl⟩, h, _, rsC, ⟨fun x hx => ?_, _, _, _, rfl⟩, hRX, InvT.cast hI (rs' := [.box gb 117 #[.map (some g)], .obj g (setKO S), .obj r (iterO g S sn)] ++ rsC) rfl⟩
      obtain ⟨q, hq, he⟩ := List.getElem_of_mem hx
      exact HIN.out q x (hall q hq) (by rw [List.getElem?_eq_getElem hq, he])
end Go.Proofs.Ythdlfepakkihnaa
