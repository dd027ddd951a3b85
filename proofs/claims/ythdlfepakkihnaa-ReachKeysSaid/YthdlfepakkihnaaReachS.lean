/- The program's search whole. Conditions: the machine is one that Check lets in. -/
import Derived.Test.YthdlfepakkihnaaReachC
import Derived.Test.YthdlfepakkihnaaRowSet
import Derived.Test.YthdlfepakkihnaaStepCk
import Derived.Test.YthdlfepakkihnaaMachOk
namespace Go.Proofs.Ythdlfepakkihnaa
open Go.RowKit
set_option linter.unusedVariables false
set_option linter.unusedSimpArgs false
set_option maxRecDepth 100000
theorem MemL.of {w w' : World} {rs : List Res} {A : Option Addr} {mem : List Val} {gs g : Nat} (hI : Inv w rs w') (hL : Lies encV 7 w w.heap.size A mem) (h1 : w.heap.size ≤ gs) (h2 : w.heap.size ≤ g) : MemL w' w.heap.size A mem gs g :=
  ⟨hL.below hI.below, h1, h2, hI.size⟩
def frF (E : Key → List Key) (F : Nat) (S : List Key) (f : Frame) : List Key := valF E F (addF E F S f.code) f.data
theorem frF_foldl (E : Key → List Key) (F : Nat) : ∀ (l : List Frame) (S : List Key), l.foldl (frF E F) S = (l.flatMap fun f => f.code :: keysOf [f.data]).foldl (addF E F) S
  | [], S => rfl
  | f :: l, S => by
    rw [List.foldl_cons, frF_foldl E F l, List.flatMap_cons, List.foldl_append]
    congr 1
    rw [List.foldl_cons, ← valF_foldl]; rfl
theorem reachS_eq (deep : Bool) (m : Mach) : reachS deep m = if deep = true then m.stack.foldl (frF (succK deep m.mem) (fuelK deep m)) (m.regs.foldl (valF (succK deep m.mem) (fuelK deep m)) (addF (succK deep m.mem) (fuelK deep m) [] m.code))
    else m.regs.foldl (valF (succK deep m.mem) (fuelK deep m)) (addF (succK deep m.mem) (fuelK deep m) [] m.code) := by
  unfold reachS dfs rootsK
  rw [List.foldl_cons, List.foldl_append, ← valF_foldl]
  split
  · rw [frF_foldl]
  · rfl
theorem left_lt (deep : Bool) (m : Mach) (S : List Key) : left (allK deep m) S < fuelK deep m := Nat.lt_succ_of_le (List.length_filter_le ..)
/-- a call that hands back a seeker that holds these keys -/
def RetSeek (w : World) (deep : Bool) (mem : List Val) (S : List Key) : Ending → World → Prop := fun e w' => ∃ (gs g a : Nat) (A : Option Addr), e = .returned (.tuple #[.pointer (some ⟨gs, 0, none⟩), .int .i64 0]) ∧ Inv w (seekR gs g A mem.length a deep S) w'
theorem c_sought_no (mc : Array Value) (m : Mach) (deep : Bool) (w : World) (hm : MachV w w.heap.size mc m) (h0 : (machE m != 0) = true) :
    Calls Try.prog 52 #[.agg mc, .bool deep] w (Ret (.tuple #[.pointer none, .int .i64 (machE m)]) w) := by
  have HM := Lib.hid hm
  have HSZ := Lib.hid hm.size
  clear hm
  have hI := Inv.start w
  go_enter Try.func52, Try.ntmps52
  go_wp2_with (first
    | (refine listI rfl fun K hK => wpI_box _ _ rfl hI rfl fun gx w' hI' hb => hK _ _ ?_; clear hK K; (try replace HM1 := Lib.hid (HM1.out.grow hb)); (try replace HM2 := Lib.hid (HM2.out.grow hb)); (try replace HM3 := Lib.hid (HM3.out.grow hb)); (try replace HM4 := Lib.hid (HM4.out.grow hb)); (try clear hb); clear hI; have hI := hI'; clear hI'; (try simp only [List.cons_append, List.nil_append, List.set_cons_zero, List.set_cons_succ, List.setIfInBounds_toArray, Act.put, Act.eval, Array.getD_eq_getD_getElem?, List.getElem?_toArray, List.getElem?_cons_zero, List.getElem?_cons_succ, Option.getD_some] at hI); (try clear c0); (try clear c1); (try clear c2); (try clear c3); (try clear c4); (try clear c5); (try clear c6); (try clear c7); (try clear c8); (try clear c9); (try clear c10); (try clear c11); (try have c0 := hI.cell (i := 0) rfl); (try have c1 := hI.cell (i := 1) rfl); (try have c2 := hI.cell (i := 2) rfl); (try have c3 := hI.cell (i := 3) rfl); (try have c4 := hI.cell (i := 4) rfl); (try have c5 := hI.cell (i := 5) rfl); (try have c6 := hI.cell (i := 6) rfl); (try have c7 := hI.cell (i := 7) rfl); (try have c8 := hI.cell (i := 8) rfl); (try have c9 := hI.cell (i := 9) rfl); (try have c10 := hI.cell (i := 10) rfl); (try have c11 := hI.cell (i := 11) rfl); skip) | (refine listI rfl fun K hK => wpI_box1 _ _ rfl hI rfl rfl fun gx w' hI' hb => hK _ _ ?_; clear hK K; (try replace HM1 := Lib.hid (HM1.out.grow hb)); (try replace HM2 := Lib.hid (HM2.out.grow hb)); (try replace HM3 := Lib.hid (HM3.out.grow hb)); (try replace HM4 := Lib.hid (HM4.out.grow hb)); (try clear hb); clear hI; have hI := hI'; clear hI'; (try simp only [List.cons_append, List.nil_append, List.set_cons_zero, List.set_cons_succ, List.setIfInBounds_toArray, Act.put, Act.eval, Array.getD_eq_getD_getElem?, List.getElem?_toArray, List.getElem?_cons_zero, List.getElem?_cons_succ, Option.getD_some] at hI); (try clear c0); (try clear c1); (try clear c2); (try clear c3); (try clear c4); (try clear c5); (try clear c6); (try clear c7); (try clear c8); (try clear c9); (try clear c10); (try clear c11); (try have c0 := hI.cell (i := 0) rfl); (try have c1 := hI.cell (i := 1) rfl); (try have c2 := hI.cell (i := 2) rfl); (try have c3 := hI.cell (i := 3) rfl); (try have c4 := hI.cell (i := 4) rfl); (try have c5 := hI.cell (i := 5) rfl); (try have c6 := hI.cell (i := 6) rfl); (try have c7 := hI.cell (i := 7) rfl); (try have c8 := hI.cell (i := 8) rfl); (try have c9 := hI.cell (i := 9) rfl); (try have c10 := hI.cell (i := 10) rfl); (try have c11 := hI.cell (i := 11) rfl); skip)
    | (refine wpList_load_box rfl 31 _ rfl (hI.box (i := 0) rfl) rfl Try.underlying31 rfl (by rw [HSZ.out]; kernel_rfl) ?_)
    | (go_at_call 76; (with_reducible refine (c_step_Check mc m _ (hI.mach HM.out)).mono ?_); intro e w' hr; obtain ⟨rfl, hb⟩ := hr; have hI' := hI.on hb; (try replace HM1 := Lib.hid (HM1.out.grow hb)); (try replace HM2 := Lib.hid (HM2.out.grow hb)); (try replace HM3 := Lib.hid (HM3.out.grow hb)); (try replace HM4 := Lib.hid (HM4.out.grow hb)); (try clear hb); clear hI; have hI := hI'; clear hI'; (try simp only [List.cons_append, List.nil_append, List.set_cons_zero, List.set_cons_succ, List.setIfInBounds_toArray, Act.put, Act.eval, Array.getD_eq_getD_getElem?, List.getElem?_toArray, List.getElem?_cons_zero, List.getElem?_cons_succ, Option.getD_some] at hI); (try clear c0); (try clear c1); (try clear c2); (try clear c3); (try clear c4); (try clear c5); (try clear c6); (try clear c7); (try clear c8); (try clear c9); (try clear c10); (try clear c11); (try have c0 := hI.cell (i := 0) rfl); (try have c1 := hI.cell (i := 1) rfl); (try have c2 := hI.cell (i := 2) rfl); (try have c3 := hI.cell (i := 3) rfl); (try have c4 := hI.cell (i := 4) rfl); (try have c5 := hI.cell (i := 5) rfl); (try have c6 := hI.cell (i := 6) rfl); (try have c7 := hI.cell (i := 7) rfl); (try have c8 := hI.cell (i := 8) rfl); (try have c9 := hI.cell (i := 9) rfl); (try have c10 := hI.cell (i := 10) rfl); (try have c11 := hI.cell (i := 11) rfl); skip) | fail)
  go_returns
  exact ⟨rfl, hI.below⟩
set_option maxHeartbeats 4000000 in
theorem c_sought_ok (mc : Array Value) (m : Mach) (deep : Bool) (w : World) (hm : MachV w w.heap.size mc m) (h0 : (machE m != 0) = false) :
    Calls Try.prog 52 #[.agg mc, .bool deep] w (RetSeek w deep m.mem (reachS deep m)) := by
  have hok := machE_ok h0
  obtain ⟨A, St, O, a, s, o, m56, m57, m58, m59, m60, m61, m62, m63, -, -, hs1, hs2, ho1, ho2, hLm, hLs, hLo, hreg⟩ := hm.cells
  have hr8 := hm.regs
  have hst := hok.deep
  have h4 := hok.len
  have HREG := Lib.hid hreg
  have HLM := Lib.hid hLm
  have HLS := Lib.hid hLs
  have HM := Lib.hid hm
  have HSZ := Lib.hid hm.size
  have HOK := Lib.hid hok
  have h0e : machE m = 0 := by simpa using h0
  have HCK := Lib.hid (fun w1 h => h0e ▸ c_step_Check mc m w1 h)
  clear hm hreg hLm hLs hLo hok h0 h0e
  obtain ⟨rl, hrl⟩ : ∃ rl : List Value, rl = m.regs.flatMap encV := ⟨_, rfl⟩
  have hrlen : rl.length = 56 := by rw [hrl, flat_len (enc := encV) (size := 7) (fun _ => rfl), hr8]
  have HRL := Lib.hid hrl
  have HRLEN := Lib.hid hrlen
  have HR8 := Lib.hid hr8
  clear hrl hrlen hr8
  have HRANGE := Lib.hid (show ∀ j v, rl[j]? = some v → mc[j]? = some v from fun j v hj => by
    rw [HRL.out] at hj
    obtain ⟨i, x, hx, hn, hu⟩ := flat_split (enc := encV) (size := 7) (fun _ => rfl) (by decide) hj
    have := HREG.out i x hx (j % 7) (Nat.mod_lt _ (by decide))
    rw [← hn] at this
    rw [this]; exact hu)
  obtain ⟨E, hE⟩ : ∃ E, succK deep m.mem = E := ⟨_, rfl⟩
  obtain ⟨F, hF⟩ : ∃ F, fuelK deep m = F := ⟨_, rfl⟩
  have HMEM := Lib.hid (show ∀ v ∈ m.mem, v.is = true → keyOk v.key = true ∧ v.key ∈ allK deep m from fun v hv hi => ⟨(valE_is (HOK.out.mem v hv) hi).1, List.mem_append_right _ (keysOf_mem.2 ⟨v, hv, hi, rfl⟩)⟩)
  have HADD := Lib.hid (fun gs g S k w' (hk : keyOk k = true) (hkU : k ∈ allK deep m) hM hI => hE ▸ hF ▸ c_addAll gs g A a deep m.mem (allK deep m) w.heap.size HMEM.out h4 (fuelK deep m) S k w' hk hkU (left_lt deep m S) hM hI)
  have HVAL := Lib.hid (fun gs g S v w' (hk : v.is = true → keyOk v.key = true ∧ v.key ∈ allK deep m) hM hI => hE ▸ hF ▸ c_val gs g A a deep m.mem (allK deep m) w.heap.size (c_addAll gs g A a deep m.mem (allK deep m) w.heap.size HMEM.out h4 (fuelK deep m)) S v w' hk (left_lt deep m S) hM hI)
  have HRS := Lib.hid (reachS_eq deep m)
  rw [hE, hF] at HRS
  have HC0 := Lib.hid (show keyOk m.code = true ∧ m.code ∈ allK deep m from ⟨HOK.out.code, List.mem_append_left _ (List.mem_cons_self ..)⟩)
  have HV0 := Lib.hid (show ∀ v ∈ m.regs, v.is = true → keyOk v.key = true ∧ v.key ∈ allK deep m from fun v hv hi => ⟨(valE_is (HOK.out.regs v hv) hi).1, List.mem_append_left _ (List.mem_cons_of_mem _ (List.mem_append_left _ (keysOf_mem.2 ⟨v, hv, hi, rfl⟩)))⟩)
  have HST := Lib.hid (show deep = true → ∀ f ∈ m.stack, (keyOk f.code = true ∧ f.code ∈ allK deep m) ∧ (f.data.is = true → keyOk f.data.key = true ∧ f.data.key ∈ allK deep m) from fun hd f hf => by
    have hin : ∀ y ∈ (f.code :: keysOf [f.data]), y ∈ allK deep m := fun y hy => by
      refine List.mem_append_left _ (List.mem_cons_of_mem _ (List.mem_append_right _ ?_))
      rw [if_pos hd]
      exact List.mem_flatMap.2 ⟨f, hf, hy⟩
    have h1 := HOK.out.stack f hf
    exact ⟨⟨h1.1, hin _ (List.mem_cons_self ..)⟩, fun hi => ⟨(valE_is h1.2 hi).1, hin _ (List.mem_cons_of_mem _ (keysOf_mem.2 ⟨f.data, by simp, hi, rfl⟩))⟩⟩)
  clear hE hF
  have hI := Inv.start w
  go_enter Try.func52, Try.ntmps52
  go_wp2_with (first
    | ((first | (refine listI rfl fun K hK => wpI_box _ _ rfl hI rfl fun gx w' hI' hb => hK _ _ ?_; clear hK K; (try replace HM1 := Lib.hid (HM1.out.grow hb)); (try replace HM2 := Lib.hid (HM2.out.grow hb)); (try replace HM3 := Lib.hid (HM3.out.grow hb)); (try replace HM4 := Lib.hid (HM4.out.grow hb)); (try clear hb); clear hI; have hI := hI'; clear hI'; (try simp only [List.cons_append, List.nil_append, List.set_cons_zero, List.set_cons_succ, List.setIfInBounds_toArray, Act.put, Act.eval, Array.getD_eq_getD_getElem?, List.getElem?_toArray, List.getElem?_cons_zero, List.getElem?_cons_succ, Option.getD_some] at hI); (try clear c0); (try clear c1); (try clear c2); (try clear c3); (try clear c4); (try clear c5); (try clear c6); (try clear c7); (try clear c8); (try clear c9); (try clear c10); (try clear c11); (try have c0 := hI.cell (i := 0) rfl); (try have c1 := hI.cell (i := 1) rfl); (try have c2 := hI.cell (i := 2) rfl); (try have c3 := hI.cell (i := 3) rfl); (try have c4 := hI.cell (i := 4) rfl); (try have c5 := hI.cell (i := 5) rfl); (try have c6 := hI.cell (i := 6) rfl); (try have c7 := hI.cell (i := 7) rfl); (try have c8 := hI.cell (i := 8) rfl); (try have c9 := hI.cell (i := 9) rfl); (try have c10 := hI.cell (i := 10) rfl); (try have c11 := hI.cell (i := 11) rfl); skip) | (refine listI rfl fun K hK => wpI_box1 _ _ rfl hI rfl rfl fun gx w' hI' hb => hK _ _ ?_; clear hK K; (try replace HM1 := Lib.hid (HM1.out.grow hb)); (try replace HM2 := Lib.hid (HM2.out.grow hb)); (try replace HM3 := Lib.hid (HM3.out.grow hb)); (try replace HM4 := Lib.hid (HM4.out.grow hb)); (try clear hb); clear hI; have hI := hI'; clear hI'; (try simp only [List.cons_append, List.nil_append, List.set_cons_zero, List.set_cons_succ, List.setIfInBounds_toArray, Act.put, Act.eval, Array.getD_eq_getD_getElem?, List.getElem?_toArray, List.getElem?_cons_zero, List.getElem?_cons_succ, Option.getD_some] at hI); (try clear c0); (try clear c1); (try clear c2); (try clear c3); (try clear c4); (try clear c5); (try clear c6); (try clear c7); (try clear c8); (try clear c9); (try clear c10); (try clear c11); (try have c0 := hI.cell (i := 0) rfl); (try have c1 := hI.cell (i := 1) rfl); (try have c2 := hI.cell (i := 2) rfl); (try have c3 := hI.cell (i := 3) rfl); (try have c4 := hI.cell (i := 4) rfl); (try have c5 := hI.cell (i := 5) rfl); (try have c6 := hI.cell (i := 6) rfl); (try have c7 := hI.cell (i := 7) rfl); (try have c8 := hI.cell (i := 8) rfl); (try have c9 := hI.cell (i := 9) rfl); (try have c10 := hI.cell (i := 10) rfl); (try have c11 := hI.cell (i := 11) rfl); skip)); first | (have hq := gm; clear hq; obtain ⟨gs, rfl⟩ : ∃ y, y = gx := ⟨_, rfl⟩) | (obtain ⟨gm, rfl⟩ : ∃ y, y = gx := ⟨_, rfl⟩))
    | (refine listI rfl fun K hK => wpI_keyMap rfl hI fun g w' hI' hb => hK _ _ ?_; clear hK K; (try replace HM1 := Lib.hid (HM1.out.grow hb)); (try replace HM2 := Lib.hid (HM2.out.grow hb)); (try replace HM3 := Lib.hid (HM3.out.grow hb)); (try replace HM4 := Lib.hid (HM4.out.grow hb)); (try clear hb); clear hI; have hI := hI'; clear hI'; (try simp only [List.cons_append, List.nil_append, List.set_cons_zero, List.set_cons_succ, List.setIfInBounds_toArray, Act.put, Act.eval, Array.getD_eq_getD_getElem?, List.getElem?_toArray, List.getElem?_cons_zero, List.getElem?_cons_succ, Option.getD_some] at hI); (try clear c0); (try clear c1); (try clear c2); (try clear c3); (try clear c4); (try clear c5); (try clear c6); (try clear c7); (try clear c8); (try clear c9); (try clear c10); (try clear c11); (try have c0 := hI.cell (i := 0) rfl); (try have c1 := hI.cell (i := 1) rfl); (try have c2 := hI.cell (i := 2) rfl); (try have c3 := hI.cell (i := 3) rfl); (try have c4 := hI.cell (i := 4) rfl); (try have c5 := hI.cell (i := 5) rfl); (try have c6 := hI.cell (i := 6) rfl); (try have c7 := hI.cell (i := 7) rfl); (try have c8 := hI.cell (i := 8) rfl); (try have c9 := hI.cell (i := 9) rfl); (try have c10 := hI.cell (i := 10) rfl); (try have c11 := hI.cell (i := 11) rfl); skip)
    | (refine wpList_load_box rfl 31 _ rfl (hI.box (i := 0) rfl) rfl Try.underlying31 rfl (by rw [HSZ.out]; kernel_rfl) ?_)
    | (go_at_call 76; (with_reducible refine (HCK.out _ (hI.mach HM.out)).mono ?_); intro e w' hr; obtain ⟨rfl, hb⟩ := hr; have hI' := hI.on hb; (try replace HM1 := Lib.hid (HM1.out.grow hb)); (try replace HM2 := Lib.hid (HM2.out.grow hb)); (try replace HM3 := Lib.hid (HM3.out.grow hb)); (try replace HM4 := Lib.hid (HM4.out.grow hb)); (try clear hb); clear hI; have hI := hI'; clear hI'; (try simp only [List.cons_append, List.nil_append, List.set_cons_zero, List.set_cons_succ, List.setIfInBounds_toArray, Act.put, Act.eval, Array.getD_eq_getD_getElem?, List.getElem?_toArray, List.getElem?_cons_zero, List.getElem?_cons_succ, Option.getD_some] at hI); (try clear c0); (try clear c1); (try clear c2); (try clear c3); (try clear c4); (try clear c5); (try clear c6); (try clear c7); (try clear c8); (try clear c9); (try clear c10); (try clear c11); (try have c0 := hI.cell (i := 0) rfl); (try have c1 := hI.cell (i := 1) rfl); (try have c2 := hI.cell (i := 2) rfl); (try have c3 := hI.cell (i := 3) rfl); (try have c4 := hI.cell (i := 4) rfl); (try have c5 := hI.cell (i := 5) rfl); (try have c6 := hI.cell (i := 6) rfl); (try have c7 := hI.cell (i := 7) rfl); (try have c8 := hI.cell (i := 8) rfl); (try have c9 := hI.cell (i := 9) rfl); (try have c10 := hI.cell (i := 10) rfl); (try have c11 := hI.cell (i := 11) rfl); skip)
    | fail)
  replace hI := hI.pickF [2, 1, 0] (by decide)
  simp only [pkf] at hI
  have HG := Lib.hid (show w.heap.size ≤ gs ∧ w.heap.size ≤ g from ⟨(hI.low 0 _ rfl gs rfl).resolve_left id, (hI.low 1 _ rfl g rfl).resolve_left id⟩)
  (try have c0 := hI.cell (i := 0) rfl); (try have c1 := hI.cell (i := 1) rfl); (try have c2 := hI.cell (i := 2) rfl); (try have c3 := hI.cell (i := 3) rfl); (try have c4 := hI.cell (i := 4) rfl); (try have c5 := hI.cell (i := 5) rfl); (try have c6 := hI.cell (i := 6) rfl); (try have c7 := hI.cell (i := 7) rfl); (try have c8 := hI.cell (i := 8) rfl); (try have c9 := hI.cell (i := 9) rfl); (try have c10 := hI.cell (i := 10) rfl); (try have c11 := hI.cell (i := 11) rfl); skip
  go_wp2_with (first
    | (go_at_call 77; refine (HADD.out gs g [] m.code _ HC0.out.1 HC0.out.2 (MemL.of hI HLM.out HG.out.1 HG.out.2) (InvT.enter (rc := seekR gs g A m.mem.length a deep []) (ts := [_]) hI)).mono ?_; rintro e w' ⟨rfl, hc2⟩; have hI' := InvT.frame (rc := seekR gs g A m.mem.length a deep []) (ts := [_]) hI hc2; simp only [seekR, List.cons_append, List.nil_append] at hI'; clear hc2; (try replace HM1 := Lib.hid (HM1.out.grow hb)); (try replace HM2 := Lib.hid (HM2.out.grow hb)); (try replace HM3 := Lib.hid (HM3.out.grow hb)); (try replace HM4 := Lib.hid (HM4.out.grow hb)); (try clear hb); clear hI; have hI := hI'; clear hI'; (try simp only [List.cons_append, List.nil_append, List.set_cons_zero, List.set_cons_succ, List.setIfInBounds_toArray, Act.put, Act.eval, Array.getD_eq_getD_getElem?, List.getElem?_toArray, List.getElem?_cons_zero, List.getElem?_cons_succ, Option.getD_some] at hI); (try clear c0); (try clear c1); (try clear c2); (try clear c3); (try clear c4); (try clear c5); (try clear c6); (try clear c7); (try clear c8); (try clear c9); (try clear c10); (try clear c11); (try have c0 := hI.cell (i := 0) rfl); (try have c1 := hI.cell (i := 1) rfl); (try have c2 := hI.cell (i := 2) rfl); (try have c3 := hI.cell (i := 3) rfl); (try have c4 := hI.cell (i := 4) rfl); (try have c5 := hI.cell (i := 5) rfl); (try have c6 := hI.cell (i := 6) rfl); (try have c7 := hI.cell (i := 7) rfl); (try have c8 := hI.cell (i := 8) rfl); (try have c9 := hI.cell (i := 9) rfl); (try have c10 := hI.cell (i := 10) rfl); (try have c11 := hI.cell (i := 11) rfl); skip)
    | (refine wpList_load_mid rfl 26 (.tmp 27) rfl gm 0 rfl rl _ (fun j v hj => by rw [Nat.zero_add]; exact (hI.cell (i := 2) rfl j).trans (HRANGE.out j v hj)) Try.underlying26 rfl (by rw [HRLEN.out]; kernel_rfl) ?_)
    | fail)
  go_loopw [29] (fun v wr => ∃ k : Nat, v = .int .i64 k ∧ k ≤ 8 ∧ Inv w [.box gs 120 #[.map (some g), .slice A m.mem.length a, .bool deep], .obj g (setKO ((m.regs.take k).foldl (valF E F) (addF E F [] m.code))), .box gm 31 mc] wr) (fun v _ => (8 - intOf v).toNat)
  case atStart => exact ⟨0, rfl, by omega, hI⟩
  case round =>
    clear hI c0 c2
    obtain ⟨k, rfl, hk, hI⟩ := hrel
    obtain ⟨S1, hS1⟩ : ∃ S1, (m.regs.take k).foldl (valF E F) (addF E F [] m.code) = S1 := ⟨_, rfl⟩
    rw [hS1] at hI
    have HS1 := Lib.hid hS1
    clear hS1
    rcases Nat.lt_or_ge k 8 with hlt | hge
    · obtain ⟨v, hv⟩ : ∃ v, m.regs[k]? = some v := ⟨_, List.getElem?_eq_getElem (by rw [HR8.out]; exact hlt)⟩
      have hix := run_index_regs HR8.out hv HRL.out
      have HV := Lib.hid hv
      clear hv
      (try have c0 := hI.cell (i := 0) rfl); (try have c1 := hI.cell (i := 1) rfl); (try have c2 := hI.cell (i := 2) rfl); (try have c3 := hI.cell (i := 3) rfl); (try have c4 := hI.cell (i := 4) rfl); (try have c5 := hI.cell (i := 5) rfl); (try have c6 := hI.cell (i := 6) rfl); (try have c7 := hI.cell (i := 7) rfl); (try have c8 := hI.cell (i := 8) rfl); (try have c9 := hI.cell (i := 9) rfl); (try have c10 := hI.cell (i := 10) rfl); (try have c11 := hI.cell (i := 11) rfl); skip
      go_wp2_with (first | (refine listI_var rfl rfl 25 rfl _ _ rfl hI Try.zeroValue25 (fun _ => rfl) (fun _ => rfl) (by first | rfl | (simp only [hsz1]; first | done | rfl | kernel_rfl) | (simp only [hsz2]; first | done | rfl | kernel_rfl) | (simp only [hsz]; first | done | rfl | kernel_rfl) | kernel_rfl) (by first | exact info_mach (by assumption) | (simp only [hsz1]; kernel_rfl) | (simp only [hsz2]; kernel_rfl) | (simp only [hsz]; kernel_rfl) | kernel_rfl) (by first | (simp [Value.oneCell']; done) | exact HO1.out | exact HO2.out) fun gx w' hI' hb => ?_; (try replace HM1 := Lib.hid (HM1.out.grow hb)); (try replace HM2 := Lib.hid (HM2.out.grow hb)); (try replace HM3 := Lib.hid (HM3.out.grow hb)); (try replace HM4 := Lib.hid (HM4.out.grow hb)); (try clear hb); clear hI; have hI := hI'; clear hI'; (try simp only [List.cons_append, List.nil_append, List.set_cons_zero, List.set_cons_succ, List.setIfInBounds_toArray, Act.put, Act.eval, Array.getD_eq_getD_getElem?, List.getElem?_toArray, List.getElem?_cons_zero, List.getElem?_cons_succ, Option.getD_some] at hI); (try clear c0); (try clear c1); (try clear c2); (try clear c3); (try clear c4); (try clear c5); (try clear c6); (try clear c7); (try clear c8); (try clear c9); (try clear c10); (try clear c11); (try have c0 := hI.cell (i := 0) rfl); (try have c1 := hI.cell (i := 1) rfl); (try have c2 := hI.cell (i := 2) rfl); (try have c3 := hI.cell (i := 3) rfl); (try have c4 := hI.cell (i := 4) rfl); (try have c5 := hI.cell (i := 5) rfl); (try have c6 := hI.cell (i := 6) rfl); (try have c7 := hI.cell (i := 7) rfl); (try have c8 := hI.cell (i := 8) rfl); (try have c9 := hI.cell (i := 9) rfl); (try have c10 := hI.cell (i := 10) rfl); (try have c11 := hI.cell (i := 11) rfl); skip) | (go_at_call 78; refine (HVAL.out gs g S1 v _ (HV0.out v (List.mem_of_getElem? HV.out)) (MemL.of hI HLM.out HG.out.1 HG.out.2) (InvT.enter (rc := seekR gs g A m.mem.length a deep S1) (ts := [_, _]) hI)).mono ?_; rintro e w' ⟨rfl, hc2⟩; have hI' := InvT.frame (rc := seekR gs g A m.mem.length a deep S1) (ts := [_, _]) hI hc2; simp only [seekR, List.cons_append, List.nil_append] at hI'; clear hc2; (try replace HM1 := Lib.hid (HM1.out.grow hb)); (try replace HM2 := Lib.hid (HM2.out.grow hb)); (try replace HM3 := Lib.hid (HM3.out.grow hb)); (try replace HM4 := Lib.hid (HM4.out.grow hb)); (try clear hb); clear hI; have hI := hI'; clear hI'; (try simp only [List.cons_append, List.nil_append, List.set_cons_zero, List.set_cons_succ, List.setIfInBounds_toArray, Act.put, Act.eval, Array.getD_eq_getD_getElem?, List.getElem?_toArray, List.getElem?_cons_zero, List.getElem?_cons_succ, Option.getD_some] at hI); (try clear c0); (try clear c1); (try clear c2); (try clear c3); (try clear c4); (try clear c5); (try clear c6); (try clear c7); (try clear c8); (try clear c9); (try clear c10); (try clear c11); (try have c0 := hI.cell (i := 0) rfl); (try have c1 := hI.cell (i := 1) rfl); (try have c2 := hI.cell (i := 2) rfl); (try have c3 := hI.cell (i := 3) rfl); (try have c4 := hI.cell (i := 4) rfl); (try have c5 := hI.cell (i := 5) rfl); (try have c6 := hI.cell (i := 6) rfl); (try have c7 := hI.cell (i := 7) rfl); (try have c8 := hI.cell (i := 8) rfl); (try have c9 := hI.cell (i := 9) rfl); (try have c10 := hI.cell (i := 10) rfl); (try have c11 := hI.cell (i := 11) rfl); skip) | fail)
      replace hI := hI.first [_, _, _] [_] rfl
      go_roundw
      case rel => exact ⟨k + 1, by go_num, by omega, by rw [List.take_add_one, HV.out, Option.toList_some, List.foldl_append, HS1.out]; exact hI⟩
      case measure => simp [intOf]; omega
    · have HS2 := Lib.hid (show m.regs.foldl (valF E F) (addF E F [] m.code) = S1 by rw [← HS1.out, List.take_of_length_le (by rw [HR8.out]; exact hge)])
      have hd8 : decide (k < 8) = false := by simp; omega
      have hst' : m.stack.length ≤ 16 := hst
      clear HS1
      (try have c0 := hI.cell (i := 0) rfl); (try have c1 := hI.cell (i := 1) rfl); (try have c2 := hI.cell (i := 2) rfl); (try have c3 := hI.cell (i := 3) rfl); (try have c4 := hI.cell (i := 4) rfl); (try have c5 := hI.cell (i := 5) rfl); (try have c6 := hI.cell (i := 6) rfl); (try have c7 := hI.cell (i := 7) rfl); (try have c8 := hI.cell (i := 8) rfl); (try have c9 := hI.cell (i := 9) rfl); (try have c10 := hI.cell (i := 10) rfl); (try have c11 := hI.cell (i := 11) rfl); skip
      cases deep
      · go_wp2_with fail
        go_returns
        exact ⟨gs, g, a, A, rfl, by rw [HRS.out, if_neg (by simp), HS2.out]; exact hI.first [_, _] [_] rfl⟩
      · go_wp2_with fail
        go_loopw [40] (fun v wr => ∃ k : Nat, v = .int .i64 k ∧ k ≤ m.stack.length ∧ Inv w [.box gs 120 #[.map (some g), .slice A m.mem.length a, .bool true], .obj g (setKO ((m.stack.take k).foldl (frF E F) S1)), .box gm 31 mc] wr) (fun v _ => (m.stack.length - intOf v).toNat)
        case atStart => exact ⟨0, rfl, by omega, hI⟩
        case round =>
          clear hI c0 c2
          obtain ⟨k, rfl, hk, hI⟩ := hrel
          obtain ⟨S2, hS2⟩ : ∃ S2, (m.stack.take k).foldl (frF E F) S1 = S2 := ⟨_, rfl⟩
          rw [hS2] at hI
          have HS3 := Lib.hid hS2
          clear hS2
          rcases Nat.lt_or_ge k m.stack.length with hlt | hge
          · obtain ⟨b, oo, p, hSA, hb, hp, q0, q1, q2, q3, q4, q5, q6, q7, q8, q9, q10, q11⟩ := (hI.lies HLS.out).cellsF hlt
            subst hSA
            have HP := Lib.hid hp
            have HPI := Lib.hid (HST.out (by simp) p (List.mem_of_getElem? hp))
            clear hp
            (try have c0 := hI.cell (i := 0) rfl); (try have c1 := hI.cell (i := 1) rfl); (try have c2 := hI.cell (i := 2) rfl); (try have c3 := hI.cell (i := 3) rfl); (try have c4 := hI.cell (i := 4) rfl); (try have c5 := hI.cell (i := 5) rfl); (try have c6 := hI.cell (i := 6) rfl); (try have c7 := hI.cell (i := 7) rfl); (try have c8 := hI.cell (i := 8) rfl); (try have c9 := hI.cell (i := 9) rfl); (try have c10 := hI.cell (i := 10) rfl); (try have c11 := hI.cell (i := 11) rfl); skip
            go_wp2_with (first | (refine listI_var rfl rfl 77 rfl _ _ rfl hI Try.zeroValue77 (fun _ => rfl) (fun _ => rfl) (by first | rfl | (simp only [hsz1]; first | done | rfl | kernel_rfl) | (simp only [hsz2]; first | done | rfl | kernel_rfl) | (simp only [hsz]; first | done | rfl | kernel_rfl) | kernel_rfl) (by first | exact info_mach (by assumption) | (simp only [hsz1]; kernel_rfl) | (simp only [hsz2]; kernel_rfl) | (simp only [hsz]; kernel_rfl) | kernel_rfl) (by first | (simp [Value.oneCell']; done) | exact HO1.out | exact HO2.out) fun gx w' hI' hb => ?_; (try replace HM1 := Lib.hid (HM1.out.grow hb)); (try replace HM2 := Lib.hid (HM2.out.grow hb)); (try replace HM3 := Lib.hid (HM3.out.grow hb)); (try replace HM4 := Lib.hid (HM4.out.grow hb)); (try clear hb); clear hI; have hI := hI'; clear hI'; (try simp only [List.cons_append, List.nil_append, List.set_cons_zero, List.set_cons_succ, List.setIfInBounds_toArray, Act.put, Act.eval, Array.getD_eq_getD_getElem?, List.getElem?_toArray, List.getElem?_cons_zero, List.getElem?_cons_succ, Option.getD_some] at hI); (try clear c0); (try clear c1); (try clear c2); (try clear c3); (try clear c4); (try clear c5); (try clear c6); (try clear c7); (try clear c8); (try clear c9); (try clear c10); (try clear c11); (try have c0 := hI.cell (i := 0) rfl); (try have c1 := hI.cell (i := 1) rfl); (try have c2 := hI.cell (i := 2) rfl); (try have c3 := hI.cell (i := 3) rfl); (try have c4 := hI.cell (i := 4) rfl); (try have c5 := hI.cell (i := 5) rfl); (try have c6 := hI.cell (i := 6) rfl); (try have c7 := hI.cell (i := 7) rfl); (try have c8 := hI.cell (i := 8) rfl); (try have c9 := hI.cell (i := 9) rfl); (try have c10 := hI.cell (i := 10) rfl); (try have c11 := hI.cell (i := 11) rfl); skip) | (go_at_call 77; refine (HADD.out gs g S2 p.code _ HPI.out.1.1 HPI.out.1.2 (MemL.of hI HLM.out HG.out.1 HG.out.2) (InvT.enter (rc := seekR gs g A m.mem.length a true S2) (ts := [_, _]) hI)).mono ?_; rintro e w' ⟨rfl, hc2⟩; have hI' := InvT.frame (rc := seekR gs g A m.mem.length a true S2) (ts := [_, _]) hI hc2; simp only [seekR, List.cons_append, List.nil_append] at hI'; clear hc2; (try replace HM1 := Lib.hid (HM1.out.grow hb)); (try replace HM2 := Lib.hid (HM2.out.grow hb)); (try replace HM3 := Lib.hid (HM3.out.grow hb)); (try replace HM4 := Lib.hid (HM4.out.grow hb)); (try clear hb); clear hI; have hI := hI'; clear hI'; (try simp only [List.cons_append, List.nil_append, List.set_cons_zero, List.set_cons_succ, List.setIfInBounds_toArray, Act.put, Act.eval, Array.getD_eq_getD_getElem?, List.getElem?_toArray, List.getElem?_cons_zero, List.getElem?_cons_succ, Option.getD_some] at hI); (try clear c0); (try clear c1); (try clear c2); (try clear c3); (try clear c4); (try clear c5); (try clear c6); (try clear c7); (try clear c8); (try clear c9); (try clear c10); (try clear c11); (try have c0 := hI.cell (i := 0) rfl); (try have c1 := hI.cell (i := 1) rfl); (try have c2 := hI.cell (i := 2) rfl); (try have c3 := hI.cell (i := 3) rfl); (try have c4 := hI.cell (i := 4) rfl); (try have c5 := hI.cell (i := 5) rfl); (try have c6 := hI.cell (i := 6) rfl); (try have c7 := hI.cell (i := 7) rfl); (try have c8 := hI.cell (i := 8) rfl); (try have c9 := hI.cell (i := 9) rfl); (try have c10 := hI.cell (i := 10) rfl); (try have c11 := hI.cell (i := 11) rfl); skip) | (go_at_call 78; refine (HVAL.out gs g (addF E F S2 p.code) p.data _ HPI.out.2 (MemL.of hI HLM.out HG.out.1 HG.out.2) (InvT.enter (rc := seekR gs g A m.mem.length a true (addF E F S2 p.code)) (ts := [_, _]) hI)).mono ?_; rintro e w' ⟨rfl, hc2⟩; have hI' := InvT.frame (rc := seekR gs g A m.mem.length a true (addF E F S2 p.code)) (ts := [_, _]) hI hc2; simp only [seekR, List.cons_append, List.nil_append] at hI'; clear hc2; (try replace HM1 := Lib.hid (HM1.out.grow hb)); (try replace HM2 := Lib.hid (HM2.out.grow hb)); (try replace HM3 := Lib.hid (HM3.out.grow hb)); (try replace HM4 := Lib.hid (HM4.out.grow hb)); (try clear hb); clear hI; have hI := hI'; clear hI'; (try simp only [List.cons_append, List.nil_append, List.set_cons_zero, List.set_cons_succ, List.setIfInBounds_toArray, Act.put, Act.eval, Array.getD_eq_getD_getElem?, List.getElem?_toArray, List.getElem?_cons_zero, List.getElem?_cons_succ, Option.getD_some] at hI); (try clear c0); (try clear c1); (try clear c2); (try clear c3); (try clear c4); (try clear c5); (try clear c6); (try clear c7); (try clear c8); (try clear c9); (try clear c10); (try clear c11); (try have c0 := hI.cell (i := 0) rfl); (try have c1 := hI.cell (i := 1) rfl); (try have c2 := hI.cell (i := 2) rfl); (try have c3 := hI.cell (i := 3) rfl); (try have c4 := hI.cell (i := 4) rfl); (try have c5 := hI.cell (i := 5) rfl); (try have c6 := hI.cell (i := 6) rfl); (try have c7 := hI.cell (i := 7) rfl); (try have c8 := hI.cell (i := 8) rfl); (try have c9 := hI.cell (i := 9) rfl); (try have c10 := hI.cell (i := 10) rfl); (try have c11 := hI.cell (i := 11) rfl); skip) | fail)
            replace hI := hI.first [_, _, _] [_] rfl
            go_roundw
            case rel => exact ⟨k + 1, by go_num, by omega, by rw [List.take_add_one, HP.out, Option.toList_some, List.foldl_append, HS3.out]; exact hI⟩
            case measure => simp [intOf]; omega
          · have hdk : decide (k < m.stack.length) = false := by simp; omega
            (try have c0 := hI.cell (i := 0) rfl); (try have c1 := hI.cell (i := 1) rfl); (try have c2 := hI.cell (i := 2) rfl); (try have c3 := hI.cell (i := 3) rfl); (try have c4 := hI.cell (i := 4) rfl); (try have c5 := hI.cell (i := 5) rfl); (try have c6 := hI.cell (i := 6) rfl); (try have c7 := hI.cell (i := 7) rfl); (try have c8 := hI.cell (i := 8) rfl); (try have c9 := hI.cell (i := 9) rfl); (try have c10 := hI.cell (i := 10) rfl); (try have c11 := hI.cell (i := 11) rfl); skip
            go_wp2_with fail
            go_returns
            exact ⟨gs, g, a, A, rfl, by rw [HRS.out]; simp only [if_true]; rw [HS2.out, ← List.take_of_length_le hge, HS3.out]; exact hI.first [_, _] [_] rfl⟩
end Go.Proofs.Ythdlfepakkihnaa
