/- An element of a row of the call's own is stored into. Conditions: none. The program's Do. Conditions: Go's tables hold what they were laid with; the image's memory is not greater than a machine's own may be. The reference's Do. Conditions: Go's tables hold what they were laid with; the image's memory is not greater than a machine's own may be. What the reach of the data says of a slice's length. Conditions: none. Do, the program's and the reference's, as one plain function; jobs read as plain data. Conditions: Go's tables hold what they were laid with. As LawL, the bound on what the arguments reach handed on. Conditions: none. Jobs, read as plain data with their addresses; what is played. Conditions: none. Play, the program's and the reference's. Conditions: Go's tables hold what they were laid with; the image's memory is not greater than a machine's own may be. The reference's Play, and its look at the results. Conditions: Go's tables hold what they were laid with; the image's memory is not greater than a machine's own may be. -/
import Derived.Test.YthmpnnfejghhfaaGreatDoorQ11
import Derived.Test.YthmpnnfejghhfaaGreatDoorQ13
import Derived.Test.YthmpnnfejghhfaaGreatDoorQ12
import Derived.SizedLaws
import Derived.Test.YthmpnnfejghhfaaGreatDoorP46
import Derived.Test.YthmpnnfejghhfaaGreatDoorP49
namespace Go.Proofs.YthmpnnfejghhfaaGreatDoor
open Go.RowKit
set_option linter.unusedVariables false
set_option linter.unusedSimpArgs false
set_option maxRecDepth 100000
section
variable {P : Program} {o : Oper} {a : Act} {T : Nat → Prop} {w0 w : World} {rs : List Res} {K : Act → World → Prop} {Q : Exit → Act → World → Prop} {α : Type} {enc : α → List Value} {t e : TypeId} {size bytes : Nat}
theorem wpI_setRow (x y : Operand) (ho : o.op = .store e x y) (E : ElT P enc t e size bytes) (hI : InvT T w0 rs w) (idx : Nat) {g n c i off : Nat} {xs : List α} (v : α) (hi : rs[idx]? = some (.row e size (.slice (some ⟨g, 0, none⟩) n c) xs.length (xs.flatMap enc)))
    (hii : i < xs.length) (hoff : off = i * size) (hx : a.eval x = .pointer (some ⟨g, off, none⟩)) (hy : a.eval y = .agg (enc v).toArray)
    (h : ∀ w', InvT T w0 (rs.set idx (.row e size (.slice (some ⟨g, 0, none⟩) n c) (xs.set i v).length ((xs.set i v).flatMap enc))) w' → K (a.put o.dst undef) w') : o.wp P a w K Q := by
  subst hoff
  have hO := hI.own0 hi
  have hn : n = xs.length := (hO.at_ (List.getElem?_eq_getElem hii)).choose_spec.2.2.2.2
  subst hn
  obtain ⟨iT, z, hIi, hz, hs, hby, hzs⟩ := E.info
  have hle : i * size + size ≤ xs.length * size := by rw [← Nat.succ_mul]; exact Nat.mul_le_mul_right _ hii
  have hthere : w.there g (i * size) (enc v).toArray.size := by
    intro j hj
    have hj' : j < size := by simpa [E.len] using hj
    obtain ⟨g', hA, _, _, hf, _⟩ := hO.at_ (List.getElem?_eq_getElem hii)
    cases hA
    refine ⟨?_, hf _⟩
    have hb : i * size + j < (xs.flatMap enc).length := by rw [flat_len E.len]; omega
    have := World.ownsRow.cells hO (g := g) rfl (i * size + j) _ (List.getElem?_eq_getElem hb)
    rw [Addr.add_lit, Nat.zero_add] at this
    rw [this]; rfl
  refine wp_store_mid e x y ho g (i * size) (enc v).toArray hx hy hthere (by rw [hIi]; simp [hs, E.len]) (by rw [Array.all_eq_true_iff_forall_mem]; intro u hu; exact E.one v u (by simpa using hu)) ?_
  obtain ⟨h1, h2⟩ := grown_setCells (g := g) (enc v) (i * size) w
  refine h _ (hI.turn hi (row := some g) h1 (fun k hk => .inl hk) ?_ fun k hk => .inl hk)
  show (w.setCells g (i * size) (enc v)).ownsRow 0 e size _ (xs.set i v).length ((xs.set i v).flatMap enc)
  rw [List.length_set, ← flat_set_all E.len hii v]
  exact ownsRow_setCells _ _ _ _ hO (by rw [E.len, flat_len E.len]; exact hle)
end
theorem InvT.pick {T : Nat → Prop} {w0 w : World} {rs : List Res} (h : InvT T w0 rs w) (is : List Nat) (rs' : List Res) (hn : is.Nodup) (he : rs'.map some = is.map (fun i => rs[i]?)) : InvT T w0 rs' w := by
  have hat : ∀ (k : Nat) r, rs'[k]? = some r → ∃ i, is[k]? = some i ∧ rs[i]? = some r := fun k r hk => by
    have h1 : (rs'.map some)[k]? = some (some r) := by rw [List.getElem?_map, hk]; rfl
    rw [he, List.getElem?_map] at h1
    cases hi : is[k]? with
    | none => rw [hi] at h1; cases h1
    | some i => rw [hi] at h1; exact ⟨i, rfl, Option.some.inj h1⟩
  refine ⟨h.but, fun k r hk => ?_, fun k r hk g hg => ?_, fun k j r s hkj hk hj g hr hs => ?_⟩
  · obtain ⟨i, -, hi⟩ := hat k r hk
    exact h.ok i r hi
  · obtain ⟨i, -, hi⟩ := hat k r hk
    exact h.low i r hi g hg
  · obtain ⟨i, hi0, hi⟩ := hat k r hk
    obtain ⟨l, hl0, hl⟩ := hat j s hj
    refine h.apart i l r s (fun e => hkj ?_) hi hl g hr hs
    subst e
    exact (List.getElem?_inj (List.getElem?_eq_some_iff.1 hi0).1 hn).1 (hi0.trans hl0.symm)
theorem InvT.form0 {α : Type} {enc : α → List Value} {T : Nat → Prop} {w0 w : World} {rs : List Res} (h : InvT T w0 rs w) {i : Nat} {e : TypeId} {size : Nat} {v : Value} {xs : List α} (hi : rs[i]? = some (.row e size v xs.length (xs.flatMap enc))) (hn : 0 < xs.length) : ∃ g c, v = .slice (some ⟨g, 0, none⟩) xs.length c := by
  rcases (h.ok i _ hi).2 with ⟨rfl, h0⟩ | ⟨g, cap, cur, rfl, _⟩
  · omega
  · exact ⟨g, cap, rfl⟩
theorem InvT.pickF {T : Nat → Prop} {w0 w : World} {rs : List Res} (h : InvT T w0 rs w) (is : List Nat) (hn : is.Nodup) : InvT T w0 (is.filterMap fun i => rs[i]?) w := by
  refine h.pick (is.filter fun i => (rs[i]?).isSome) _ (hn.filter _) ?_
  clear hn
  induction is with
  | nil => rfl
  | cons i is ih =>
    cases hi : rs[i]? with
    | none => simp [hi, ih]
    | some r => simp [hi, ih]
theorem pkf : (∀ (α β : Type) (f : α → Option β) (x : α) (l : List α), (x :: l).filterMap f = match f x with | none => l.filterMap f | some y => y :: l.filterMap f) ∧ (∀ (α β : Type) (f : α → Option β), ([] : List α).filterMap f = []) ∧ (∀ (α : Type) (x : α) (l : List α), (x :: l)[0]? = some x) ∧ (∀ (α : Type) (x : α) (l : List α) (i : Nat), (x :: l)[i + 1]? = l[i]?) :=
  ⟨fun _ _ f x l => by rw [List.filterMap_cons]; cases f x <;> rfl, fun _ _ _ => rfl, fun _ _ _ => rfl, fun _ _ _ _ => rfl⟩
end Go.Proofs.YthmpnnfejghhfaaGreatDoor
namespace Go.Proofs.YthmpnnfejghhfaaGreatDoor
open Go.RowKit
set_option linter.unusedVariables false
set_option linter.unusedSimpArgs false
set_option maxRecDepth 100000
def RetDo (w : World) (d : Done) (ys : List Val) : Ending → World → Prop := fun ed w' => ∃ (O : Option Addr) (o : Nat) (A : Option Addr) (c : Nat), ed = .returned (.tuple #[.agg #[.int .i64 d.e, .int .i64 d.n, .slice O d.out.length o, .int .i64 d.fuel], .slice A ys.length c]) ∧
  Lies encI 1 w' w'.heap.size O d.out ∧ d.out.length ≤ o ∧ o ≤ maxLen ∧ Lies encV 7 w' w'.heap.size A ys ∧ ys.length ≤ c ∧ c ≤ maxLen ∧ Below w.heap.size w w'
def RetDo2 (w : World) (d : Done) (ys : List Val) : Ending → World → Prop := fun ed w' => ∃ (O : Option Addr) (o : Nat) (A : Option Addr) (c : Nat), ed = .returned (.tuple #[.agg #[.int .i64 d.e, .int .i64 d.n, .slice O d.out.length o, .int .i64 d.fuel], .slice A ys.length c]) ∧
  Inv w [.row 3 1 (.slice O d.out.length o) d.out.length (d.out.flatMap encI), .row 25 7 (.slice A ys.length c) ys.length (ys.flatMap encV)] w'
theorem RetDo2.to {w w' : World} {d : Done} {ys : List Val} {ed : Ending} (h : RetDo2 w d ys ed w') : RetDo w d ys ed w' := by
  obtain ⟨O, o, A, c, rfl, hI⟩ := h
  have r1 := hI.rowCap (i := 0) rfl
  have r2 := hI.rowCap (i := 1) rfl
  exact ⟨O, o, A, c, rfl, (InvT.own0 (enc := encI) (xs := d.out) (size := 1) hI (i := 0) rfl).liesB (fun _ => rfl) rfl, r1.1, r1.2, (InvT.own0 (enc := encV) (xs := ys) (size := 7) hI (i := 1) rfl).liesB (fun _ => rfl) rfl, r2.1, r2.2, hI.below⟩
theorem MachV.head {w : World} {B : Nat} {mc : Array Value} {m : Mach} (h : MachV w B mc m) : ∃ (A O : Option Addr) (a o : Nat), mc[0]? = some (.bool (regV m 0).is) ∧ mc[1]? = some (.int .i64 (regV m 0).n) ∧
    mc[61]? = some (.slice A m.mem.length a) ∧ mc[63]? = some (.slice O m.out.length o) ∧ m.mem.length ≤ a ∧ a ≤ maxLen ∧ m.out.length ≤ o ∧ o ≤ maxLen ∧ Lies encV 7 w B A m.mem ∧ Lies encI 1 w B O m.out := by
  obtain ⟨A, S, O, a, s, o, -, -, -, -, -, p61, -, p63, h1, h2, -, -, h5, h6, hA, -, hO, hr⟩ := h.cells
  have h8 := h.regs
  have hv : m.regs[0]? = some (regV m 0) := by
    unfold regV
    rw [List.getD_eq_getElem?_getD, show (0 : Int).toNat = 0 from rfl, List.getElem?_eq_getElem (by omega)]
    rfl
  exact ⟨A, O, a, o, hr 0 _ hv 0 (by decide), hr 0 _ hv 1 (by decide), p61, p63, h1, h2, h5, h6, hA, hO⟩
section
variable (A E Ap O : Option Addr) (c e np cp o : Nat) (xs : List Val) (es : List Entry) (s : ByteArray) (l : List Int) (fuel : Int) (w : World)
set_option maxHeartbeats 4000000 in
theorem c_Do_enter (he : es.length ≤ maxLen) (ho : l.length ≤ maxLen) (hx1 : xs.length ≤ maxLen) (hx2 : xs.length * 56 ≤ 140737488355328) (hL : Lies encV 7 w w.heap.size A xs) (hM : Lies encE 11 w w.heap.size E es) (hN : Lies encI 1 w w.heap.size O l) (h0 : ¬ (enterF xs es s l).2 = 0) :
    Calls Tryz.prog 20 #[.agg #[.slice A xs.length c, .slice Ap np cp, .slice E es.length e], .agg #[.string s, .slice O l.length o, .int .i64 fuel]] w (RetDo2 w ⟨(enterF xs es s l).2, 0, [], 0⟩ xs) := by
  have HL := Lib.hid hL
  have HC := Lib.hid (fun w h1 h2 h3 => c_enter_Enter A E Ap O c e np cp o xs es s l w he ho h1 h2 h3)
  have HM := Lib.hid hM
  have HN := Lib.hid hN
  have hne : ((enterF xs es s l).2 != 0) = true := by simpa using h0
  clear hL hM hN h0
  generalize enterF xs es s l = q at *
  obtain ⟨m1, er⟩ := q
  dsimp only at hne HC ⊢
  go_enter Tryz.func20, Tryz.ntmps20
  have hI := Inv.start w
  go_wp2_with (first
    | ((with_reducible refine at_box ?_); first | (refine listI rfl fun K hK => wpI_box _ _ rfl hI rfl fun gx w' hI' hb => hK _ _ ?_; clear hK K; (try replace HM1 := Lib.hid (HM1.out.grow hb)); (try clear hb); replace hI := hI'; clear hI'; replace cF := hI.facts; (try simp only [mm, Act.put, Act.eval] at hI cF)) | (refine listI rfl fun K hK => wpI_box1 _ _ rfl hI rfl rfl fun gx w' hI' hb => hK _ _ ?_; clear hK K; (try replace HM1 := Lib.hid (HM1.out.grow hb)); (try clear hb); replace hI := hI'; clear hI'; replace cF := hI.facts; (try simp only [mm, Act.put, Act.eval] at hI cF)))
    | ((with_reducible refine at_alloc ?_); first | (refine listI rfl fun K hK => wpI_alloc 53 rfl hI Tryz.zeroValue53 (cs := #[.int .i64 0, .int .i64 0, .slice none 0 0, .int .i64 0]) (by first | rfl | kernel_rfl) fun gx w' hI' hb => hK _ _ ?_; clear hK K; (try replace HM1 := Lib.hid (HM1.out.grow hb)); (try clear hb); replace hI := hI'; clear hI'; replace cF := hI.facts; (try simp only [mm, Act.put, Act.eval] at hI cF)))
    | (go_at_call 40; (with_reducible refine (HC.out _ (hI.lies HL.out) (hI.lies HM.out) (hI.lies HN.out)).mono ?_); rintro e w' ⟨mc1, rfl, hm1, hb⟩; have hI' := hI.on hb; have hsz1 := hm1.size; (try replace HM1 := Lib.hid (HM1.out.grow hb)); (try clear hb); replace hI := hI'; clear hI'; replace cF := hI.facts; (try simp only [mm, Act.put, Act.eval] at hI cF); have HM1 := Lib.hid hm1; have HO1 := Lib.hid hm1.one; clear hm1) | ((with_reducible refine at_alloc ?_); first | (refine lv 31 hI Tryz.zeroValue31 fun gx w' hI' hb => ?_; (try replace HM1 := Lib.hid (HM1.out.grow hb)); (try clear hb); replace hI := hI'; clear hI'; replace cF := hI.facts; (try simp only [mm, Act.put, Act.eval] at hI cF))) | ((with_reducible refine at_store ?_); first | (refine listI rfl fun K hK => wpI_storeW _ _ _ rfl hI rfl 2 rfl rfl rfl (by kernel_rfl) (by simp [Value.oneCell']) fun w' hI' => hK _ _ ?_; clear hK K; (try replace HM1 := Lib.hid (HM1.out.grow hb)); (try clear hb); replace hI := hI'; clear hI'; replace cF := hI.facts; (try simp only [mm, Act.put, Act.eval] at hI cF)))
    | (go_at_call 41; (with_reducible refine (c_Clone_V A c xs _ hx1 hx2 (hI.lies HL.out)).mono ?_); rintro e w' ⟨A2, A2k, rfl, hO, -, hb⟩; have hI' := hI.ownrow hb hO; clear hO; (try replace HM1 := Lib.hid (HM1.out.grow hb)); (try clear hb); replace hI := hI'; clear hI'; replace cF := hI.facts; (try simp only [mm, Act.put, Act.eval] at hI cF))
    | fail)
  have hbx := hI.box (i := 2) rfl
  ((try simp only [Exit.inBlock, Exit.then]); refine bodyPost_ret (results_ct rfl rfl hbx Tryz.underlying53 rfl (by kernel_rfl)) rfl ?_)
  exact ⟨none, 0, A2, A2k, rfl, (hI.nilrow 3 1).pick [5, 4] [_, _] (by decide) rfl⟩
set_option maxHeartbeats 4000000 in
theorem c_Do_arg (he : es.length ≤ maxLen) (ho : l.length ≤ maxLen) (hE : Env w) (hx1 : xs.length ≤ maxLen) (hx2 : xs.length * 56 ≤ 140737488355328) (hL : Lies encV 7 w w.heap.size A xs) (hM : Lies encE 11 w w.heap.size E es) (hN : Lies encI 1 w w.heap.size O l) (h0 : (enterF xs es s l).2 = 0) (hr : (runF (enterF xs es s l).1 fuel).2.2.2 = false) :
    Calls Tryz.prog 20 #[.agg #[.slice A xs.length c, .slice Ap np cp, .slice E es.length e], .agg #[.string s, .slice O l.length o, .int .i64 fuel]] w (RetDo2 w (doJob xs es s l fuel).1 (doJob xs es s l fuel).2) := by
  have HL := Lib.hid hL
  have HC := Lib.hid (fun w h1 h2 h3 => c_enter_Enter A E Ap O c e np cp o xs es s l w he ho h1 h2 h3)
  have HM := Lib.hid hM
  have HN := Lib.hid hN
  have HE := Lib.hid hE
  have hmo := enterF_mach h0
  have HR := Lib.hid (fun mc w h1 h2 => c_Run mc (enterF xs es s l).1 fuel w h1 h2)
  have h1 := (runF_ran hmo fuel).1 hr
  have hjob : doJob xs es s l fuel = (⟨1, 0, [], 0⟩, xs) := by unfold doJob; rw [if_neg (by rw [h0]; simp), if_pos hr, h1]
  rw [hjob]
  clear hL hM hN hE hmo hjob hr
  generalize enterF xs es s l = q at *
  obtain ⟨m1, er⟩ := q
  dsimp only at h0 HC HR h1
  subst h0
  generalize runF m1 fuel = r at *
  obtain ⟨m2, ps, e2, ran⟩ := r
  dsimp only at h1 HR
  subst h1
  go_enter Tryz.func20, Tryz.ntmps20
  have hI := Inv.start w
  go_wp2_with (first
    | ((with_reducible refine at_box ?_); first | (refine listI rfl fun K hK => wpI_box _ _ rfl hI rfl fun gx w' hI' hb => hK _ _ ?_; clear hK K; (try replace HM1 := Lib.hid (HM1.out.grow hb)); (try clear hb); replace hI := hI'; clear hI'; replace cF := hI.facts; (try simp only [mm, Act.put, Act.eval] at hI cF)) | (refine listI rfl fun K hK => wpI_box1 _ _ rfl hI rfl rfl fun gx w' hI' hb => hK _ _ ?_; clear hK K; (try replace HM1 := Lib.hid (HM1.out.grow hb)); (try clear hb); replace hI := hI'; clear hI'; replace cF := hI.facts; (try simp only [mm, Act.put, Act.eval] at hI cF)))
    | ((with_reducible refine at_alloc ?_); first | (refine listI rfl fun K hK => wpI_alloc 53 rfl hI Tryz.zeroValue53 (cs := #[.int .i64 0, .int .i64 0, .slice none 0 0, .int .i64 0]) (by first | rfl | kernel_rfl) fun gx w' hI' hb => hK _ _ ?_; clear hK K; (try replace HM1 := Lib.hid (HM1.out.grow hb)); (try clear hb); replace hI := hI'; clear hI'; replace cF := hI.facts; (try simp only [mm, Act.put, Act.eval] at hI cF)))
    | (go_at_call 40; (with_reducible refine (HC.out _ (hI.lies HL.out) (hI.lies HM.out) (hI.lies HN.out)).mono ?_); rintro e w' ⟨mc1, rfl, hm1, hb⟩; have hI' := hI.on hb; have hsz1 := hm1.size; (try replace HM1 := Lib.hid (HM1.out.grow hb)); (try clear hb); replace hI := hI'; clear hI'; replace cF := hI.facts; (try simp only [mm, Act.put, Act.eval] at hI cF); have HM1 := Lib.hid hm1; have HO1 := Lib.hid hm1.one; clear hm1) | ((with_reducible refine at_alloc ?_); first | (refine lv 31 hI Tryz.zeroValue31 fun gx w' hI' hb => ?_; (try replace HM1 := Lib.hid (HM1.out.grow hb)); (try clear hb); replace hI := hI'; clear hI'; replace cF := hI.facts; (try simp only [mm, Act.put, Act.eval] at hI cF))) | ((with_reducible refine at_load ?_); first | (refine wpList_load_box rfl 31 _ rfl (hI.box (i := 3) rfl) rfl Tryz.underlying31 rfl (by first | exact info_mach (by assumption) | (simp only [hsz1]; kernel_rfl) | (simp only [hsz2]; kernel_rfl) | (simp only [hsz]; kernel_rfl) | kernel_rfl) ?_))
    | (go_at_call 16; refine (HR.out mc1 _ HM1.out (HE.out.inv hI)).mono ?_; rintro e w' ⟨va, vs, vo, h82, rfl, hI2⟩; have hb := hI2.below; have hI' := hI.join hI2; clear hI2; (try replace HM1 := Lib.hid (HM1.out.grow hb)); (try clear hb); replace hI := hI'; clear hI'; replace cF := hI.facts; (try simp only [mm, Act.put, Act.eval] at hI cF))
    | ((with_reducible refine at_store ?_); first | (refine listI rfl fun K hK => wpI_storeW _ _ _ rfl hI rfl 3 rfl rfl (by rw [hsz1, List.size_toArray, machL_length h82]) (info_mach h82) (machL_one h82 (hI.one (i := 4) rfl) (hI.one (i := 5) rfl) (hI.one (i := 6) rfl)) fun w' hI' => hK _ _ ?_; clear hK K; (try replace HM1 := Lib.hid (HM1.out.grow hb)); (try clear hb); replace hI := hI'; clear hI'; replace cF := hI.facts; (try simp only [mm, Act.put, Act.eval] at hI cF))) | ((with_reducible refine at_store ?_); first | (refine listI rfl fun K hK => wpI_storeW _ _ _ rfl hI rfl 2 rfl rfl rfl (by kernel_rfl) (by simp [Value.oneCell']) fun w' hI' => hK _ _ ?_; clear hK K; (try replace HM1 := Lib.hid (HM1.out.grow hb)); (try clear hb); replace hI := hI'; clear hI'; replace cF := hI.facts; (try simp only [mm, Act.put, Act.eval] at hI cF)))
    | (go_at_call 41; (with_reducible refine (c_Clone_V A c xs _ hx1 hx2 (hI.lies HL.out)).mono ?_); rintro e w' ⟨A2, A2k, rfl, hO, -, hb⟩; have hI' := hI.ownrow hb hO; clear hO; (try replace HM1 := Lib.hid (HM1.out.grow hb)); (try clear hb); replace hI := hI'; clear hI'; replace cF := hI.facts; (try simp only [mm, Act.put, Act.eval] at hI cF))
    | fail)
  have hbx := hI.box (i := 2) rfl
  ((try simp only [Exit.inBlock, Exit.then]); refine bodyPost_ret (results_ct rfl rfl hbx Tryz.underlying53 rfl (by kernel_rfl)) rfl ?_)
  exact ⟨none, 0, A2, A2k, rfl, (hI.nilrow 3 1).pick [8, 7] [_, _] (by decide) rfl⟩
set_option maxHeartbeats 4000000 in
theorem c_Do_ok (he : es.length ≤ maxLen) (ho : l.length ≤ maxLen) (hE : Env w) (hL : Lies encV 7 w w.heap.size A xs) (hM : Lies encE 11 w w.heap.size E es) (hN : Lies encI 1 w w.heap.size O l) (h0 : (enterF xs es s l).2 = 0) (hr : (runF (enterF xs es s l).1 fuel).2.2.2 = true) :
    Calls Tryz.prog 20 #[.agg #[.slice A xs.length c, .slice Ap np cp, .slice E es.length e], .agg #[.string s, .slice O l.length o, .int .i64 fuel]] w (RetDo2 w (doJob xs es s l fuel).1 (doJob xs es s l fuel).2) := by
  have HL := Lib.hid hL
  have HC := Lib.hid (fun w h1 h2 h3 => c_enter_Enter A E Ap O c e np cp o xs es s l w he ho h1 h2 h3)
  have HM := Lib.hid hM
  have HN := Lib.hid hN
  have HE := Lib.hid hE
  have hmo := enterF_mach h0
  have HR := Lib.hid (fun mc w h1 h2 => c_Run mc (enterF xs es s l).1 fuel w h1 h2)
  have hne := fun h => Bool.false_ne_true (((runF_ran hmo fuel).2 h).symm.trans hr)
  have hjob : doJob xs es s l fuel = (⟨if (runF (enterF xs es s l).1 fuel).2.2.1 = 16 then 0 else (runF (enterF xs es s l).1 fuel).2.2.1, if (regV (runF (enterF xs es s l).1 fuel).1 0).is = true then 0 else (regV (runF (enterF xs es s l).1 fuel).1 0).n, (runF (enterF xs es s l).1 fuel).1.out, (runF (enterF xs es s l).1 fuel).2.1.length⟩, (runF (enterF xs es s l).1 fuel).1.mem) := by
    unfold doJob; rw [if_neg (by rw [h0]; simp), if_neg (by rw [hr]; simp)]
  rw [hjob]
  clear hL hM hN hE hmo hjob
  generalize enterF xs es s l = q at *
  obtain ⟨m1, er⟩ := q
  dsimp only at h0 HC HR hr hne ⊢
  subst h0
  generalize runF m1 fuel = r at *
  obtain ⟨m2, ps, e2, ran⟩ := r
  dsimp only at hr HR hne ⊢
  subst hr
  have hn1 : (e2 == 1) = false := by simpa using hne
  clear hne
  obtain ⟨x, hx⟩ : ∃ x, regV m2 0 = x := ⟨_, rfl⟩
  rw [hx]
  have HX0 := Lib.hid (show m2.regs.length = 8 → m2.regs[0]? = some x from fun h8 => by
    rw [← hx]; unfold regV
    rw [List.getD_eq_getElem?_getD, show (0 : Int).toNat = 0 from rfl, List.getElem?_eq_getElem (by omega)]
    rfl)
  clear hx
  by_cases h16 : e2 = 16
  · subst h16
    rw [if_pos rfl]
    cases hxi : x.is
    · have hjn : (if false = true then (0 : Int) else x.n) = x.n := rfl
      rw [hjn]
      go_enter Tryz.func20, Tryz.ntmps20
      have hI := Inv.start w
      go_wp2_with (first
        | ((with_reducible refine at_box ?_); first | (refine listI rfl fun K hK => wpI_box _ _ rfl hI rfl fun gx w' hI' hb => hK _ _ ?_; clear hK K; (try replace HM1 := Lib.hid (HM1.out.grow hb)); (try clear hb); replace hI := hI'; clear hI'; replace cF := hI.facts; (try simp only [mm, Act.put, Act.eval] at hI cF)) | (refine listI rfl fun K hK => wpI_box1 _ _ rfl hI rfl rfl fun gx w' hI' hb => hK _ _ ?_; clear hK K; (try replace HM1 := Lib.hid (HM1.out.grow hb)); (try clear hb); replace hI := hI'; clear hI'; replace cF := hI.facts; (try simp only [mm, Act.put, Act.eval] at hI cF)))
        | ((with_reducible refine at_alloc ?_); first | (refine listI rfl fun K hK => wpI_alloc 53 rfl hI Tryz.zeroValue53 (cs := #[.int .i64 0, .int .i64 0, .slice none 0 0, .int .i64 0]) (by first | rfl | kernel_rfl) fun gx w' hI' hb => hK _ _ ?_; clear hK K; (try replace HM1 := Lib.hid (HM1.out.grow hb)); (try clear hb); replace hI := hI'; clear hI'; replace cF := hI.facts; (try simp only [mm, Act.put, Act.eval] at hI cF)))
        | (go_at_call 40; (with_reducible refine (HC.out _ (hI.lies HL.out) (hI.lies HM.out) (hI.lies HN.out)).mono ?_); rintro e w' ⟨mc1, rfl, hm1, hb⟩; have hI' := hI.on hb; have hsz1 := hm1.size; (try replace HM1 := Lib.hid (HM1.out.grow hb)); (try clear hb); replace hI := hI'; clear hI'; replace cF := hI.facts; (try simp only [mm, Act.put, Act.eval] at hI cF); have HM1 := Lib.hid hm1; have HO1 := Lib.hid hm1.one; clear hm1) | ((with_reducible refine at_alloc ?_); first | (refine lv 31 hI Tryz.zeroValue31 fun gx w' hI' hb => ?_; (try replace HM1 := Lib.hid (HM1.out.grow hb)); (try clear hb); replace hI := hI'; clear hI'; replace cF := hI.facts; (try simp only [mm, Act.put, Act.eval] at hI cF))) | ((with_reducible refine at_load ?_); first | (refine wpList_load_box rfl 31 _ rfl (hI.box (i := 3) rfl) rfl Tryz.underlying31 rfl (by first | exact info_mach (by assumption) | (simp only [hsz1]; kernel_rfl) | (simp only [hsz2]; kernel_rfl) | (simp only [hsz]; kernel_rfl) | kernel_rfl) ?_))
        | (go_at_call 16; refine (HR.out mc1 _ HM1.out (HE.out.inv hI)).mono ?_; rintro e w' ⟨va, vs, vo, h82, rfl, hI2⟩; have hb := hI2.below; have hI' := hI.join hI2; clear hI2; (try replace HM1 := Lib.hid (HM1.out.grow hb)); (try clear hb); replace hI := hI'; clear hI'; replace cF := hI.facts; (try simp only [mm, Act.put, Act.eval] at hI cF); obtain ⟨Am, ca, rfl⟩ := (InvT.own0 (enc := encV) (xs := m2.mem) (size := 7) hI (i := 4) rfl).form; obtain ⟨Ao, co, rfl⟩ := (InvT.own0 (enc := encI) (xs := m2.out) (size := 1) hI (i := 6) rfl).form; have P0 := machL_reg (k := m2.code) (a := .slice Am m2.mem.length ca) (b := vs) (c := .slice Ao m2.out.length co) h82 (HX0.out h82) (j := 0) (by decide); have P1 := machL_reg (k := m2.code) (a := .slice Am m2.mem.length ca) (b := vs) (c := .slice Ao m2.out.length co) h82 (HX0.out h82) (j := 1) (by decide); obtain ⟨mc2, hmc2⟩ : ∃ mc2, (machL m2.regs m2.code (.slice Am m2.mem.length ca) vs (.slice Ao m2.out.length co)).toArray = mc2 := ⟨_, rfl⟩; have p61 : mc2[61]? = some (.slice Am m2.mem.length ca) := (by rw [← hmc2, List.getElem?_toArray]; exact machL_61 h82); have p63 : mc2[63]? = some (.slice Ao m2.out.length co) := (by rw [← hmc2, List.getElem?_toArray]; exact machL_63 h82); have q0 : mc2[0]? = some (.bool x.is) := (by rw [← hmc2, List.getElem?_toArray]; exact P0); have q1 : mc2[1]? = some (.int .i64 x.n) := (by rw [← hmc2, List.getElem?_toArray]; exact P1); have HMC2 := Lib.hid hmc2; have HS2 := Lib.hid (show mc2.size = 64 by rw [← hmc2, List.size_toArray]; exact machL_length h82); rw [hmc2]; clear hmc2 P0 P1)
        | ((with_reducible refine at_store ?_); first | (refine listI rfl fun K hK => wpI_storeW _ _ _ rfl hI rfl 3 rfl rfl (hsz1.trans HS2.out.symm) (by rw [HS2.out]; kernel_rfl) (by rw [← HMC2.out]; exact machL_one h82 (hI.one (i := 4) rfl) (hI.one (i := 5) rfl) (hI.one (i := 6) rfl)) fun w' hI' => hK _ _ ?_; clear hK K; (try replace HM1 := Lib.hid (HM1.out.grow hb)); (try clear hb); replace hI := hI'; clear hI'; replace cF := hI.facts; (try simp only [mm, Act.put, Act.eval] at hI cF))) | ((with_reducible refine at_store ?_); first | (refine listI rfl fun K hK => wpI_storeW _ _ _ rfl hI rfl 7 rfl rfl rfl (by kernel_rfl) (by simp [Value.oneCell']) fun w' hI' => hK _ _ ?_; clear hK K; (try replace HM1 := Lib.hid (HM1.out.grow hb)); (try clear hb); replace hI := hI'; clear hI'; replace cF := hI.facts; (try simp only [mm, Act.put, Act.eval] at hI cF)))
        | ((with_reducible refine at_store ?_); first | (refine listI rfl fun K hK => wpI_store1 _ _ _ rfl hI rfl 7 rfl rfl rfl (by simp) (by kernel_rfl) fun w' hI' => hK _ _ ?_; clear hK K; (try replace HM1 := Lib.hid (HM1.out.grow hb)); (try clear hb); replace hI := hI'; clear hI'; replace cF := hI.facts; (try simp only [mm, Act.put, Act.eval] at hI cF)))
        | fail)
      (refine wp_region_K [3, 7] (by kernel_rfl) hI fun w' hI' hHeld => ?_; (try replace HM1 := Lib.hid (HM1.out.grow hb)); (try clear hb); replace hI := hI'; clear hI'; replace cF := hI.facts; (try simp only [mm, Act.put, Act.eval] at hI cF))
      (refine takeH (i := 0) rfl (by kernel_rfl) (by kernel_rfl) (by kernel_rfl) (fun _ _ _ _ h => h) (by rfl) (by assumption) ⟨_, fun W hSw => run_load_box 53 (.tmp 9) rfl rfl (hSw.box 7 (by decide) rfl) Tryz.underlying53 rfl (by first | exact info_mach (by assumption) | (simp only [hsz1]; kernel_rfl) | (simp only [hsz2]; kernel_rfl) | (simp only [hsz]; kernel_rfl) | kernel_rfl), ?_⟩; (try simp only [Act.put, List.setIfInBounds_toArray, List.set_cons_zero, List.set_cons_succ]))
      (refine tk 1 ?_; (try simp only [np, Act.put])); (refine tk 2 ?_; (try simp only [np, Act.put]))
      refine oneH (i := 3) (by kernel_rfl) rfl (fun K hK => ?_)
      (refine stepI rfl (wpI_storeW _ _ _ rfl hI rfl 2 rfl rfl rfl (by kernel_rfl) (by simp [Value.oneCell']) fun w' hI' => hK.out _ _ (hI'.held (by simp)) (fun hHeld => ?_)); clear hK K; (try replace HM1 := Lib.hid (HM1.out.grow hb)); (try clear hb); replace hI := hI'; clear hI'; replace cF := hI.facts; (try simp only [mm, Act.put, Act.eval] at hI cF); (try simp only [np, Act.put]))
      (refine tk 4 ?_; (try simp only [np, Act.put]))
      refine wpAnyH_done (by kernel_rfl) ?_ _
      clear hHeld
      go_wp2_with fail
      have hbx := hI.box (i := 2) rfl
      ((try simp only [Exit.inBlock, Exit.then]); refine bodyPost_ret (results_ct rfl rfl hbx Tryz.underlying53 rfl (by kernel_rfl)) rfl ?_)
      exact ⟨Ao, co, Am, ca, rfl, hI.pick [6, 4] [_, _] (by decide) rfl⟩
    · have hjn : (if true = true then (0 : Int) else x.n) = 0 := rfl
      rw [hjn]
      go_enter Tryz.func20, Tryz.ntmps20
      have hI := Inv.start w
      go_wp2_with (first
        | ((with_reducible refine at_box ?_); first | (refine listI rfl fun K hK => wpI_box _ _ rfl hI rfl fun gx w' hI' hb => hK _ _ ?_; clear hK K; (try replace HM1 := Lib.hid (HM1.out.grow hb)); (try clear hb); replace hI := hI'; clear hI'; replace cF := hI.facts; (try simp only [mm, Act.put, Act.eval] at hI cF)) | (refine listI rfl fun K hK => wpI_box1 _ _ rfl hI rfl rfl fun gx w' hI' hb => hK _ _ ?_; clear hK K; (try replace HM1 := Lib.hid (HM1.out.grow hb)); (try clear hb); replace hI := hI'; clear hI'; replace cF := hI.facts; (try simp only [mm, Act.put, Act.eval] at hI cF)))
        | ((with_reducible refine at_alloc ?_); first | (refine listI rfl fun K hK => wpI_alloc 53 rfl hI Tryz.zeroValue53 (cs := #[.int .i64 0, .int .i64 0, .slice none 0 0, .int .i64 0]) (by first | rfl | kernel_rfl) fun gx w' hI' hb => hK _ _ ?_; clear hK K; (try replace HM1 := Lib.hid (HM1.out.grow hb)); (try clear hb); replace hI := hI'; clear hI'; replace cF := hI.facts; (try simp only [mm, Act.put, Act.eval] at hI cF)))
        | (go_at_call 40; (with_reducible refine (HC.out _ (hI.lies HL.out) (hI.lies HM.out) (hI.lies HN.out)).mono ?_); rintro e w' ⟨mc1, rfl, hm1, hb⟩; have hI' := hI.on hb; have hsz1 := hm1.size; (try replace HM1 := Lib.hid (HM1.out.grow hb)); (try clear hb); replace hI := hI'; clear hI'; replace cF := hI.facts; (try simp only [mm, Act.put, Act.eval] at hI cF); have HM1 := Lib.hid hm1; have HO1 := Lib.hid hm1.one; clear hm1) | ((with_reducible refine at_alloc ?_); first | (refine lv 31 hI Tryz.zeroValue31 fun gx w' hI' hb => ?_; (try replace HM1 := Lib.hid (HM1.out.grow hb)); (try clear hb); replace hI := hI'; clear hI'; replace cF := hI.facts; (try simp only [mm, Act.put, Act.eval] at hI cF))) | ((with_reducible refine at_load ?_); first | (refine wpList_load_box rfl 31 _ rfl (hI.box (i := 3) rfl) rfl Tryz.underlying31 rfl (by first | exact info_mach (by assumption) | (simp only [hsz1]; kernel_rfl) | (simp only [hsz2]; kernel_rfl) | (simp only [hsz]; kernel_rfl) | kernel_rfl) ?_))
        | (go_at_call 16; refine (HR.out mc1 _ HM1.out (HE.out.inv hI)).mono ?_; rintro e w' ⟨va, vs, vo, h82, rfl, hI2⟩; have hb := hI2.below; have hI' := hI.join hI2; clear hI2; (try replace HM1 := Lib.hid (HM1.out.grow hb)); (try clear hb); replace hI := hI'; clear hI'; replace cF := hI.facts; (try simp only [mm, Act.put, Act.eval] at hI cF); obtain ⟨Am, ca, rfl⟩ := (InvT.own0 (enc := encV) (xs := m2.mem) (size := 7) hI (i := 4) rfl).form; obtain ⟨Ao, co, rfl⟩ := (InvT.own0 (enc := encI) (xs := m2.out) (size := 1) hI (i := 6) rfl).form; have P0 := machL_reg (k := m2.code) (a := .slice Am m2.mem.length ca) (b := vs) (c := .slice Ao m2.out.length co) h82 (HX0.out h82) (j := 0) (by decide); have P1 := machL_reg (k := m2.code) (a := .slice Am m2.mem.length ca) (b := vs) (c := .slice Ao m2.out.length co) h82 (HX0.out h82) (j := 1) (by decide); obtain ⟨mc2, hmc2⟩ : ∃ mc2, (machL m2.regs m2.code (.slice Am m2.mem.length ca) vs (.slice Ao m2.out.length co)).toArray = mc2 := ⟨_, rfl⟩; have p61 : mc2[61]? = some (.slice Am m2.mem.length ca) := (by rw [← hmc2, List.getElem?_toArray]; exact machL_61 h82); have p63 : mc2[63]? = some (.slice Ao m2.out.length co) := (by rw [← hmc2, List.getElem?_toArray]; exact machL_63 h82); have q0 : mc2[0]? = some (.bool x.is) := (by rw [← hmc2, List.getElem?_toArray]; exact P0); have q1 : mc2[1]? = some (.int .i64 x.n) := (by rw [← hmc2, List.getElem?_toArray]; exact P1); have HMC2 := Lib.hid hmc2; have HS2 := Lib.hid (show mc2.size = 64 by rw [← hmc2, List.size_toArray]; exact machL_length h82); rw [hmc2]; clear hmc2 P0 P1)
        | ((with_reducible refine at_store ?_); first | (refine listI rfl fun K hK => wpI_storeW _ _ _ rfl hI rfl 3 rfl rfl (hsz1.trans HS2.out.symm) (by rw [HS2.out]; kernel_rfl) (by rw [← HMC2.out]; exact machL_one h82 (hI.one (i := 4) rfl) (hI.one (i := 5) rfl) (hI.one (i := 6) rfl)) fun w' hI' => hK _ _ ?_; clear hK K; (try replace HM1 := Lib.hid (HM1.out.grow hb)); (try clear hb); replace hI := hI'; clear hI'; replace cF := hI.facts; (try simp only [mm, Act.put, Act.eval] at hI cF))) | ((with_reducible refine at_store ?_); first | (refine listI rfl fun K hK => wpI_storeW _ _ _ rfl hI rfl 7 rfl rfl rfl (by kernel_rfl) (by simp [Value.oneCell']) fun w' hI' => hK _ _ ?_; clear hK K; (try replace HM1 := Lib.hid (HM1.out.grow hb)); (try clear hb); replace hI := hI'; clear hI'; replace cF := hI.facts; (try simp only [mm, Act.put, Act.eval] at hI cF)))
        | ((with_reducible refine at_store ?_); first | (refine listI rfl fun K hK => wpI_store1 _ _ _ rfl hI rfl 7 rfl rfl rfl (by simp) (by kernel_rfl) fun w' hI' => hK _ _ ?_; clear hK K; (try replace HM1 := Lib.hid (HM1.out.grow hb)); (try clear hb); replace hI := hI'; clear hI'; replace cF := hI.facts; (try simp only [mm, Act.put, Act.eval] at hI cF)))
        | fail)
      (refine wp_region_K [3, 7] (by kernel_rfl) hI fun w' hI' hHeld => ?_; (try replace HM1 := Lib.hid (HM1.out.grow hb)); (try clear hb); replace hI := hI'; clear hI'; replace cF := hI.facts; (try simp only [mm, Act.put, Act.eval] at hI cF))
      (refine takeH (i := 0) rfl (by kernel_rfl) (by kernel_rfl) (by kernel_rfl) (fun _ _ _ _ h => h) (by rfl) (by assumption) ⟨_, fun W hSw => run_load_box 53 (.tmp 9) rfl rfl (hSw.box 7 (by decide) rfl) Tryz.underlying53 rfl (by first | exact info_mach (by assumption) | (simp only [hsz1]; kernel_rfl) | (simp only [hsz2]; kernel_rfl) | (simp only [hsz]; kernel_rfl) | kernel_rfl), ?_⟩; (try simp only [Act.put, List.setIfInBounds_toArray, List.set_cons_zero, List.set_cons_succ]))
      (refine tk 1 ?_; (try simp only [np, Act.put])); (refine tk 2 ?_; (try simp only [np, Act.put]))
      refine oneH (i := 3) (by kernel_rfl) rfl (fun K hK => ?_)
      (refine stepI rfl (wpI_storeW _ _ _ rfl hI rfl 2 rfl rfl rfl (by kernel_rfl) (by simp [Value.oneCell']) fun w' hI' => hK.out _ _ (hI'.held (by simp)) (fun hHeld => ?_)); clear hK K; (try replace HM1 := Lib.hid (HM1.out.grow hb)); (try clear hb); replace hI := hI'; clear hI'; replace cF := hI.facts; (try simp only [mm, Act.put, Act.eval] at hI cF); (try simp only [np, Act.put]))
      (refine tk 4 ?_; (try simp only [np, Act.put]))
      refine wpAnyH_done (by kernel_rfl) ?_ _
      clear hHeld
      go_wp2_with fail
      have hbx := hI.box (i := 2) rfl
      ((try simp only [Exit.inBlock, Exit.then]); refine bodyPost_ret (results_ct rfl rfl hbx Tryz.underlying53 rfl (by kernel_rfl)) rfl ?_)
      exact ⟨Ao, co, Am, ca, rfl, hI.pick [6, 4] [_, _] (by decide) rfl⟩
  · rw [if_neg h16]
    have hn16 : (e2 == 16) = false := by simpa using h16
    cases hxi : x.is
    · have hjn : (if false = true then (0 : Int) else x.n) = x.n := rfl
      rw [hjn]
      go_enter Tryz.func20, Tryz.ntmps20
      have hI := Inv.start w
      go_wp2_with (first
        | ((with_reducible refine at_box ?_); first | (refine listI rfl fun K hK => wpI_box _ _ rfl hI rfl fun gx w' hI' hb => hK _ _ ?_; clear hK K; (try replace HM1 := Lib.hid (HM1.out.grow hb)); (try clear hb); replace hI := hI'; clear hI'; replace cF := hI.facts; (try simp only [mm, Act.put, Act.eval] at hI cF)) | (refine listI rfl fun K hK => wpI_box1 _ _ rfl hI rfl rfl fun gx w' hI' hb => hK _ _ ?_; clear hK K; (try replace HM1 := Lib.hid (HM1.out.grow hb)); (try clear hb); replace hI := hI'; clear hI'; replace cF := hI.facts; (try simp only [mm, Act.put, Act.eval] at hI cF)))
        | ((with_reducible refine at_alloc ?_); first | (refine listI rfl fun K hK => wpI_alloc 53 rfl hI Tryz.zeroValue53 (cs := #[.int .i64 0, .int .i64 0, .slice none 0 0, .int .i64 0]) (by first | rfl | kernel_rfl) fun gx w' hI' hb => hK _ _ ?_; clear hK K; (try replace HM1 := Lib.hid (HM1.out.grow hb)); (try clear hb); replace hI := hI'; clear hI'; replace cF := hI.facts; (try simp only [mm, Act.put, Act.eval] at hI cF)))
        | (go_at_call 40; (with_reducible refine (HC.out _ (hI.lies HL.out) (hI.lies HM.out) (hI.lies HN.out)).mono ?_); rintro e w' ⟨mc1, rfl, hm1, hb⟩; have hI' := hI.on hb; have hsz1 := hm1.size; (try replace HM1 := Lib.hid (HM1.out.grow hb)); (try clear hb); replace hI := hI'; clear hI'; replace cF := hI.facts; (try simp only [mm, Act.put, Act.eval] at hI cF); have HM1 := Lib.hid hm1; have HO1 := Lib.hid hm1.one; clear hm1) | ((with_reducible refine at_alloc ?_); first | (refine lv 31 hI Tryz.zeroValue31 fun gx w' hI' hb => ?_; (try replace HM1 := Lib.hid (HM1.out.grow hb)); (try clear hb); replace hI := hI'; clear hI'; replace cF := hI.facts; (try simp only [mm, Act.put, Act.eval] at hI cF))) | ((with_reducible refine at_load ?_); first | (refine wpList_load_box rfl 31 _ rfl (hI.box (i := 3) rfl) rfl Tryz.underlying31 rfl (by first | exact info_mach (by assumption) | (simp only [hsz1]; kernel_rfl) | (simp only [hsz2]; kernel_rfl) | (simp only [hsz]; kernel_rfl) | kernel_rfl) ?_))
        | (go_at_call 16; refine (HR.out mc1 _ HM1.out (HE.out.inv hI)).mono ?_; rintro e w' ⟨va, vs, vo, h82, rfl, hI2⟩; have hb := hI2.below; have hI' := hI.join hI2; clear hI2; (try replace HM1 := Lib.hid (HM1.out.grow hb)); (try clear hb); replace hI := hI'; clear hI'; replace cF := hI.facts; (try simp only [mm, Act.put, Act.eval] at hI cF); obtain ⟨Am, ca, rfl⟩ := (InvT.own0 (enc := encV) (xs := m2.mem) (size := 7) hI (i := 4) rfl).form; obtain ⟨Ao, co, rfl⟩ := (InvT.own0 (enc := encI) (xs := m2.out) (size := 1) hI (i := 6) rfl).form; have P0 := machL_reg (k := m2.code) (a := .slice Am m2.mem.length ca) (b := vs) (c := .slice Ao m2.out.length co) h82 (HX0.out h82) (j := 0) (by decide); have P1 := machL_reg (k := m2.code) (a := .slice Am m2.mem.length ca) (b := vs) (c := .slice Ao m2.out.length co) h82 (HX0.out h82) (j := 1) (by decide); obtain ⟨mc2, hmc2⟩ : ∃ mc2, (machL m2.regs m2.code (.slice Am m2.mem.length ca) vs (.slice Ao m2.out.length co)).toArray = mc2 := ⟨_, rfl⟩; have p61 : mc2[61]? = some (.slice Am m2.mem.length ca) := (by rw [← hmc2, List.getElem?_toArray]; exact machL_61 h82); have p63 : mc2[63]? = some (.slice Ao m2.out.length co) := (by rw [← hmc2, List.getElem?_toArray]; exact machL_63 h82); have q0 : mc2[0]? = some (.bool x.is) := (by rw [← hmc2, List.getElem?_toArray]; exact P0); have q1 : mc2[1]? = some (.int .i64 x.n) := (by rw [← hmc2, List.getElem?_toArray]; exact P1); have HMC2 := Lib.hid hmc2; have HS2 := Lib.hid (show mc2.size = 64 by rw [← hmc2, List.size_toArray]; exact machL_length h82); rw [hmc2]; clear hmc2 P0 P1)
        | ((with_reducible refine at_store ?_); first | (refine listI rfl fun K hK => wpI_storeW _ _ _ rfl hI rfl 3 rfl rfl (hsz1.trans HS2.out.symm) (by rw [HS2.out]; kernel_rfl) (by rw [← HMC2.out]; exact machL_one h82 (hI.one (i := 4) rfl) (hI.one (i := 5) rfl) (hI.one (i := 6) rfl)) fun w' hI' => hK _ _ ?_; clear hK K; (try replace HM1 := Lib.hid (HM1.out.grow hb)); (try clear hb); replace hI := hI'; clear hI'; replace cF := hI.facts; (try simp only [mm, Act.put, Act.eval] at hI cF))) | ((with_reducible refine at_store ?_); first | (refine listI rfl fun K hK => wpI_storeW _ _ _ rfl hI rfl 7 rfl rfl rfl (by kernel_rfl) (by simp [Value.oneCell']) fun w' hI' => hK _ _ ?_; clear hK K; (try replace HM1 := Lib.hid (HM1.out.grow hb)); (try clear hb); replace hI := hI'; clear hI'; replace cF := hI.facts; (try simp only [mm, Act.put, Act.eval] at hI cF)))
        | ((with_reducible refine at_store ?_); first | (refine listI rfl fun K hK => wpI_store1 _ _ _ rfl hI rfl 7 rfl rfl rfl (by simp) (by kernel_rfl) fun w' hI' => hK _ _ ?_; clear hK K; (try replace HM1 := Lib.hid (HM1.out.grow hb)); (try clear hb); replace hI := hI'; clear hI'; replace cF := hI.facts; (try simp only [mm, Act.put, Act.eval] at hI cF)))
        | fail)
      (refine wp_region_K [3, 7] (by kernel_rfl) hI fun w' hI' hHeld => ?_; (try replace HM1 := Lib.hid (HM1.out.grow hb)); (try clear hb); replace hI := hI'; clear hI'; replace cF := hI.facts; (try simp only [mm, Act.put, Act.eval] at hI cF))
      (refine takeH (i := 0) rfl (by kernel_rfl) (by kernel_rfl) (by kernel_rfl) (fun _ _ _ _ h => h) (by rfl) (by assumption) ⟨_, fun W hSw => run_load_box 53 (.tmp 9) rfl rfl (hSw.box 7 (by decide) rfl) Tryz.underlying53 rfl (by first | exact info_mach (by assumption) | (simp only [hsz1]; kernel_rfl) | (simp only [hsz2]; kernel_rfl) | (simp only [hsz]; kernel_rfl) | kernel_rfl), ?_⟩; (try simp only [Act.put, List.setIfInBounds_toArray, List.set_cons_zero, List.set_cons_succ]))
      (refine tk 1 ?_; (try simp only [np, Act.put])); (refine tk 2 ?_; (try simp only [np, Act.put]))
      refine oneH (i := 3) (by kernel_rfl) rfl (fun K hK => ?_)
      (refine stepI rfl (wpI_storeW _ _ _ rfl hI rfl 2 rfl rfl rfl (by kernel_rfl) (by simp [Value.oneCell']) fun w' hI' => hK.out _ _ (hI'.held (by simp)) (fun hHeld => ?_)); clear hK K; (try replace HM1 := Lib.hid (HM1.out.grow hb)); (try clear hb); replace hI := hI'; clear hI'; replace cF := hI.facts; (try simp only [mm, Act.put, Act.eval] at hI cF); (try simp only [np, Act.put]))
      (refine tk 4 ?_; (try simp only [np, Act.put]))
      refine wpAnyH_done (by kernel_rfl) ?_ _
      clear hHeld
      go_wp2_with fail
      have hbx := hI.box (i := 2) rfl
      ((try simp only [Exit.inBlock, Exit.then]); refine bodyPost_ret (results_ct rfl rfl hbx Tryz.underlying53 rfl (by kernel_rfl)) rfl ?_)
      exact ⟨Ao, co, Am, ca, rfl, hI.pick [6, 4] [_, _] (by decide) rfl⟩
    · have hjn : (if true = true then (0 : Int) else x.n) = 0 := rfl
      rw [hjn]
      go_enter Tryz.func20, Tryz.ntmps20
      have hI := Inv.start w
      go_wp2_with (first
        | ((with_reducible refine at_box ?_); first | (refine listI rfl fun K hK => wpI_box _ _ rfl hI rfl fun gx w' hI' hb => hK _ _ ?_; clear hK K; (try replace HM1 := Lib.hid (HM1.out.grow hb)); (try clear hb); replace hI := hI'; clear hI'; replace cF := hI.facts; (try simp only [mm, Act.put, Act.eval] at hI cF)) | (refine listI rfl fun K hK => wpI_box1 _ _ rfl hI rfl rfl fun gx w' hI' hb => hK _ _ ?_; clear hK K; (try replace HM1 := Lib.hid (HM1.out.grow hb)); (try clear hb); replace hI := hI'; clear hI'; replace cF := hI.facts; (try simp only [mm, Act.put, Act.eval] at hI cF)))
        | ((with_reducible refine at_alloc ?_); first | (refine listI rfl fun K hK => wpI_alloc 53 rfl hI Tryz.zeroValue53 (cs := #[.int .i64 0, .int .i64 0, .slice none 0 0, .int .i64 0]) (by first | rfl | kernel_rfl) fun gx w' hI' hb => hK _ _ ?_; clear hK K; (try replace HM1 := Lib.hid (HM1.out.grow hb)); (try clear hb); replace hI := hI'; clear hI'; replace cF := hI.facts; (try simp only [mm, Act.put, Act.eval] at hI cF)))
        | (go_at_call 40; (with_reducible refine (HC.out _ (hI.lies HL.out) (hI.lies HM.out) (hI.lies HN.out)).mono ?_); rintro e w' ⟨mc1, rfl, hm1, hb⟩; have hI' := hI.on hb; have hsz1 := hm1.size; (try replace HM1 := Lib.hid (HM1.out.grow hb)); (try clear hb); replace hI := hI'; clear hI'; replace cF := hI.facts; (try simp only [mm, Act.put, Act.eval] at hI cF); have HM1 := Lib.hid hm1; have HO1 := Lib.hid hm1.one; clear hm1) | ((with_reducible refine at_alloc ?_); first | (refine lv 31 hI Tryz.zeroValue31 fun gx w' hI' hb => ?_; (try replace HM1 := Lib.hid (HM1.out.grow hb)); (try clear hb); replace hI := hI'; clear hI'; replace cF := hI.facts; (try simp only [mm, Act.put, Act.eval] at hI cF))) | ((with_reducible refine at_load ?_); first | (refine wpList_load_box rfl 31 _ rfl (hI.box (i := 3) rfl) rfl Tryz.underlying31 rfl (by first | exact info_mach (by assumption) | (simp only [hsz1]; kernel_rfl) | (simp only [hsz2]; kernel_rfl) | (simp only [hsz]; kernel_rfl) | kernel_rfl) ?_))
        | (go_at_call 16; refine (HR.out mc1 _ HM1.out (HE.out.inv hI)).mono ?_; rintro e w' ⟨va, vs, vo, h82, rfl, hI2⟩; have hb := hI2.below; have hI' := hI.join hI2; clear hI2; (try replace HM1 := Lib.hid (HM1.out.grow hb)); (try clear hb); replace hI := hI'; clear hI'; replace cF := hI.facts; (try simp only [mm, Act.put, Act.eval] at hI cF); obtain ⟨Am, ca, rfl⟩ := (InvT.own0 (enc := encV) (xs := m2.mem) (size := 7) hI (i := 4) rfl).form; obtain ⟨Ao, co, rfl⟩ := (InvT.own0 (enc := encI) (xs := m2.out) (size := 1) hI (i := 6) rfl).form; have P0 := machL_reg (k := m2.code) (a := .slice Am m2.mem.length ca) (b := vs) (c := .slice Ao m2.out.length co) h82 (HX0.out h82) (j := 0) (by decide); have P1 := machL_reg (k := m2.code) (a := .slice Am m2.mem.length ca) (b := vs) (c := .slice Ao m2.out.length co) h82 (HX0.out h82) (j := 1) (by decide); obtain ⟨mc2, hmc2⟩ : ∃ mc2, (machL m2.regs m2.code (.slice Am m2.mem.length ca) vs (.slice Ao m2.out.length co)).toArray = mc2 := ⟨_, rfl⟩; have p61 : mc2[61]? = some (.slice Am m2.mem.length ca) := (by rw [← hmc2, List.getElem?_toArray]; exact machL_61 h82); have p63 : mc2[63]? = some (.slice Ao m2.out.length co) := (by rw [← hmc2, List.getElem?_toArray]; exact machL_63 h82); have q0 : mc2[0]? = some (.bool x.is) := (by rw [← hmc2, List.getElem?_toArray]; exact P0); have q1 : mc2[1]? = some (.int .i64 x.n) := (by rw [← hmc2, List.getElem?_toArray]; exact P1); have HMC2 := Lib.hid hmc2; have HS2 := Lib.hid (show mc2.size = 64 by rw [← hmc2, List.size_toArray]; exact machL_length h82); rw [hmc2]; clear hmc2 P0 P1)
        | ((with_reducible refine at_store ?_); first | (refine listI rfl fun K hK => wpI_storeW _ _ _ rfl hI rfl 3 rfl rfl (hsz1.trans HS2.out.symm) (by rw [HS2.out]; kernel_rfl) (by rw [← HMC2.out]; exact machL_one h82 (hI.one (i := 4) rfl) (hI.one (i := 5) rfl) (hI.one (i := 6) rfl)) fun w' hI' => hK _ _ ?_; clear hK K; (try replace HM1 := Lib.hid (HM1.out.grow hb)); (try clear hb); replace hI := hI'; clear hI'; replace cF := hI.facts; (try simp only [mm, Act.put, Act.eval] at hI cF))) | ((with_reducible refine at_store ?_); first | (refine listI rfl fun K hK => wpI_storeW _ _ _ rfl hI rfl 7 rfl rfl rfl (by kernel_rfl) (by simp [Value.oneCell']) fun w' hI' => hK _ _ ?_; clear hK K; (try replace HM1 := Lib.hid (HM1.out.grow hb)); (try clear hb); replace hI := hI'; clear hI'; replace cF := hI.facts; (try simp only [mm, Act.put, Act.eval] at hI cF)))
        | ((with_reducible refine at_store ?_); first | (refine listI rfl fun K hK => wpI_store1 _ _ _ rfl hI rfl 7 rfl rfl rfl (by simp) (by kernel_rfl) fun w' hI' => hK _ _ ?_; clear hK K; (try replace HM1 := Lib.hid (HM1.out.grow hb)); (try clear hb); replace hI := hI'; clear hI'; replace cF := hI.facts; (try simp only [mm, Act.put, Act.eval] at hI cF)))
        | fail)
      (refine wp_region_K [3, 7] (by kernel_rfl) hI fun w' hI' hHeld => ?_; (try replace HM1 := Lib.hid (HM1.out.grow hb)); (try clear hb); replace hI := hI'; clear hI'; replace cF := hI.facts; (try simp only [mm, Act.put, Act.eval] at hI cF))
      (refine takeH (i := 0) rfl (by kernel_rfl) (by kernel_rfl) (by kernel_rfl) (fun _ _ _ _ h => h) (by rfl) (by assumption) ⟨_, fun W hSw => run_load_box 53 (.tmp 9) rfl rfl (hSw.box 7 (by decide) rfl) Tryz.underlying53 rfl (by first | exact info_mach (by assumption) | (simp only [hsz1]; kernel_rfl) | (simp only [hsz2]; kernel_rfl) | (simp only [hsz]; kernel_rfl) | kernel_rfl), ?_⟩; (try simp only [Act.put, List.setIfInBounds_toArray, List.set_cons_zero, List.set_cons_succ]))
      (refine tk 1 ?_; (try simp only [np, Act.put])); (refine tk 2 ?_; (try simp only [np, Act.put]))
      refine oneH (i := 3) (by kernel_rfl) rfl (fun K hK => ?_)
      (refine stepI rfl (wpI_storeW _ _ _ rfl hI rfl 2 rfl rfl rfl (by kernel_rfl) (by simp [Value.oneCell']) fun w' hI' => hK.out _ _ (hI'.held (by simp)) (fun hHeld => ?_)); clear hK K; (try replace HM1 := Lib.hid (HM1.out.grow hb)); (try clear hb); replace hI := hI'; clear hI'; replace cF := hI.facts; (try simp only [mm, Act.put, Act.eval] at hI cF); (try simp only [np, Act.put]))
      (refine tk 4 ?_; (try simp only [np, Act.put]))
      refine wpAnyH_done (by kernel_rfl) ?_ _
      clear hHeld
      go_wp2_with fail
      have hbx := hI.box (i := 2) rfl
      ((try simp only [Exit.inBlock, Exit.then]); refine bodyPost_ret (results_ct rfl rfl hbx Tryz.underlying53 rfl (by kernel_rfl)) rfl ?_)
      exact ⟨Ao, co, Am, ca, rfl, hI.pick [6, 4] [_, _] (by decide) rfl⟩
end
end Go.Proofs.YthmpnnfejghhfaaGreatDoor
namespace Go.Proofs.YthmpnnfejghhfaaGreatDoor
open Go.RowKit
set_option linter.unusedVariables false
set_option linter.unusedSimpArgs false
set_option maxRecDepth 100000
section
variable (A E Ap O : Option Addr) (c e np cp o : Nat) (xs : List Val) (es : List Entry) (s : ByteArray) (l : List Int) (fuel : Int) (w : World)
set_option maxHeartbeats 4000000 in
theorem r_Do_enter (he : es.length ≤ e) (he' : e ≤ maxLen) (ho : l.length ≤ maxLen) (hwf : ∀ (i : Nat) v, xs[i]? = some v → Val.Wf v) (hwe : ∀ (i : Nat) v, es[i]? = some v → Entry.Wf v) (hx1 : xs.length ≤ maxLen) (hx2 : xs.length * 56 ≤ 140737488355328) (hL : Lies encV 7 w w.heap.size A xs) (hM : Lies encE 11 w w.heap.size E es) (hN : Lies encI 1 w w.heap.size O l) (h0 : ¬ (enterF xs es s l).2 = 0) :
    Calls Tryz.prog 21 #[.agg #[.slice A xs.length c, .slice Ap np cp, .slice E es.length e], .agg #[.string s, .slice O l.length o, .int .i64 fuel]] w (RetDo2 w ⟨(enterF xs es s l).2, 0, [], 0⟩ xs) := by
  have HL := Lib.hid hL
  have HC := Lib.hid (fun w h1 h2 h3 => r_Enter A E Ap O c e np cp o xs es s l w he he' ho hwf hwe h1 h2 h3)
  have HM := Lib.hid hM
  have HN := Lib.hid hN
  have hne : ((enterF xs es s l).2 != 0) = true := by simpa using h0
  clear hL hM hN h0
  generalize enterF xs es s l = q at *
  obtain ⟨m1, er⟩ := q
  dsimp only at hne HC ⊢
  go_enter Tryz.func21, Tryz.ntmps21
  have hI := Inv.start w
  go_wp2_with (first
    | ((with_reducible refine at_box ?_); first | (refine listI rfl fun K hK => wpI_box _ _ rfl hI rfl fun gx w' hI' hb => hK _ _ ?_; clear hK K; (try replace HM1 := Lib.hid (HM1.out.grow hb)); (try clear hb); replace hI := hI'; clear hI'; replace cF := hI.facts; (try simp only [mm, Act.put, Act.eval] at hI cF)) | (refine listI rfl fun K hK => wpI_box1 _ _ rfl hI rfl rfl fun gx w' hI' hb => hK _ _ ?_; clear hK K; (try replace HM1 := Lib.hid (HM1.out.grow hb)); (try clear hb); replace hI := hI'; clear hI'; replace cF := hI.facts; (try simp only [mm, Act.put, Act.eval] at hI cF)))
    | ((with_reducible refine at_alloc ?_); first | (refine listI rfl fun K hK => wpI_alloc 53 rfl hI Tryz.zeroValue53 (cs := #[.int .i64 0, .int .i64 0, .slice none 0 0, .int .i64 0]) (by first | rfl | kernel_rfl) fun gx w' hI' hb => hK _ _ ?_; clear hK K; (try replace HM1 := Lib.hid (HM1.out.grow hb)); (try clear hb); replace hI := hI'; clear hI'; replace cF := hI.facts; (try simp only [mm, Act.put, Act.eval] at hI cF)))
    | (go_at_call 42; (with_reducible refine (HC.out _ (hI.lies HL.out) (hI.lies HM.out) (hI.lies HN.out)).mono ?_); rintro e w' ⟨mc1, rfl, hm1, hb⟩; have hI' := hI.on hb; have hsz1 := hm1.size; (try replace HM1 := Lib.hid (HM1.out.grow hb)); (try clear hb); replace hI := hI'; clear hI'; replace cF := hI.facts; (try simp only [mm, Act.put, Act.eval] at hI cF); have HM1 := Lib.hid hm1; have HO1 := Lib.hid hm1.one; clear hm1) | ((with_reducible refine at_alloc ?_); first | (refine lv 31 hI Tryz.zeroValue31 fun gx w' hI' hb => ?_; (try replace HM1 := Lib.hid (HM1.out.grow hb)); (try clear hb); replace hI := hI'; clear hI'; replace cF := hI.facts; (try simp only [mm, Act.put, Act.eval] at hI cF))) | ((with_reducible refine at_store ?_); first | (refine listI rfl fun K hK => wpI_storeW _ _ _ rfl hI rfl 2 rfl rfl rfl (by kernel_rfl) (by simp [Value.oneCell']) fun w' hI' => hK _ _ ?_; clear hK K; (try replace HM1 := Lib.hid (HM1.out.grow hb)); (try clear hb); replace hI := hI'; clear hI'; replace cF := hI.facts; (try simp only [mm, Act.put, Act.eval] at hI cF)))
    | (go_at_call 43; (with_reducible refine (r_Copy_V A c xs _ hx1 hx2 (hI.lies HL.out)).mono ?_); rintro e w' ⟨A2, A2k, rfl, hO, -, hb⟩; have hI' := hI.ownrow hb hO; clear hO; (try replace HM1 := Lib.hid (HM1.out.grow hb)); (try clear hb); replace hI := hI'; clear hI'; replace cF := hI.facts; (try simp only [mm, Act.put, Act.eval] at hI cF))
    | fail)
  have hbx := hI.box (i := 2) rfl
  ((try simp only [Exit.inBlock, Exit.then]); refine bodyPost_ret (results_ct rfl rfl hbx Tryz.underlying53 rfl (by kernel_rfl)) rfl ?_)
  exact ⟨none, 0, A2, A2k, rfl, (hI.nilrow 3 1).pick [5, 4] [_, _] (by decide) rfl⟩
set_option maxHeartbeats 4000000 in
theorem r_Do_arg (he : es.length ≤ e) (he' : e ≤ maxLen) (ho : l.length ≤ maxLen) (hwf : ∀ (i : Nat) v, xs[i]? = some v → Val.Wf v) (hwe : ∀ (i : Nat) v, es[i]? = some v → Entry.Wf v) (hE : Env w) (hx1 : xs.length ≤ maxLen) (hx2 : xs.length * 56 ≤ 140737488355328) (hL : Lies encV 7 w w.heap.size A xs) (hM : Lies encE 11 w w.heap.size E es) (hN : Lies encI 1 w w.heap.size O l) (h0 : (enterF xs es s l).2 = 0) (hr : (runF (enterF xs es s l).1 fuel).2.2.2 = false) :
    Calls Tryz.prog 21 #[.agg #[.slice A xs.length c, .slice Ap np cp, .slice E es.length e], .agg #[.string s, .slice O l.length o, .int .i64 fuel]] w (RetDo2 w (doJob xs es s l fuel).1 (doJob xs es s l fuel).2) := by
  have HL := Lib.hid hL
  have HC := Lib.hid (fun w h1 h2 h3 => r_Enter A E Ap O c e np cp o xs es s l w he he' ho hwf hwe h1 h2 h3)
  have HM := Lib.hid hM
  have HN := Lib.hid hN
  have HE := Lib.hid hE
  have hmo := enterF_mach h0
  have HR := Lib.hid (fun mc w h1 h2 => r_RunR mc (enterF xs es s l).1 (MachOk.wf hmo) fuel w h1 h2)
  have h1 := (runF_ran hmo fuel).1 hr
  have hjob : doJob xs es s l fuel = (⟨1, 0, [], 0⟩, xs) := by unfold doJob; rw [if_neg (by rw [h0]; simp), if_pos hr, h1]
  rw [hjob]
  clear hL hM hN hE hmo hjob
  generalize enterF xs es s l = q at *
  obtain ⟨m1, er⟩ := q
  dsimp only at h0 HC HR h1
  subst h0
  generalize runF m1 fuel = r at *
  obtain ⟨m2, ps, e2, ran⟩ := r
  dsimp only at h1 HR hr
  subst h1
  subst hr
  go_enter Tryz.func21, Tryz.ntmps21
  have hI := Inv.start w
  go_wp2_with (first
    | ((with_reducible refine at_box ?_); first | (refine listI rfl fun K hK => wpI_box _ _ rfl hI rfl fun gx w' hI' hb => hK _ _ ?_; clear hK K; (try replace HM1 := Lib.hid (HM1.out.grow hb)); (try clear hb); replace hI := hI'; clear hI'; replace cF := hI.facts; (try simp only [mm, Act.put, Act.eval] at hI cF)) | (refine listI rfl fun K hK => wpI_box1 _ _ rfl hI rfl rfl fun gx w' hI' hb => hK _ _ ?_; clear hK K; (try replace HM1 := Lib.hid (HM1.out.grow hb)); (try clear hb); replace hI := hI'; clear hI'; replace cF := hI.facts; (try simp only [mm, Act.put, Act.eval] at hI cF)))
    | ((with_reducible refine at_alloc ?_); first | (refine listI rfl fun K hK => wpI_alloc 53 rfl hI Tryz.zeroValue53 (cs := #[.int .i64 0, .int .i64 0, .slice none 0 0, .int .i64 0]) (by first | rfl | kernel_rfl) fun gx w' hI' hb => hK _ _ ?_; clear hK K; (try replace HM1 := Lib.hid (HM1.out.grow hb)); (try clear hb); replace hI := hI'; clear hI'; replace cF := hI.facts; (try simp only [mm, Act.put, Act.eval] at hI cF)))
    | (go_at_call 42; (with_reducible refine (HC.out _ (hI.lies HL.out) (hI.lies HM.out) (hI.lies HN.out)).mono ?_); rintro e w' ⟨mc1, rfl, hm1, hb⟩; have hI' := hI.on hb; have hsz1 := hm1.size; (try replace HM1 := Lib.hid (HM1.out.grow hb)); (try clear hb); replace hI := hI'; clear hI'; replace cF := hI.facts; (try simp only [mm, Act.put, Act.eval] at hI cF); have HM1 := Lib.hid hm1; have HO1 := Lib.hid hm1.one; clear hm1) | ((with_reducible refine at_alloc ?_); first | (refine lv 31 hI Tryz.zeroValue31 fun gx w' hI' hb => ?_; (try replace HM1 := Lib.hid (HM1.out.grow hb)); (try clear hb); replace hI := hI'; clear hI'; replace cF := hI.facts; (try simp only [mm, Act.put, Act.eval] at hI cF))) | ((with_reducible refine at_load ?_); first | (refine wpList_load_box rfl 31 _ rfl (hI.box (i := 3) rfl) rfl Tryz.underlying31 rfl (by first | exact info_mach (by assumption) | (simp only [hsz1]; kernel_rfl) | (simp only [hsz2]; kernel_rfl) | (simp only [hsz]; kernel_rfl) | kernel_rfl) ?_))
    | (go_at_call 17; refine (HR.out mc1 _ HM1.out (HE.out.inv hI)).mono ?_; rintro e w' ⟨va, vs, vo, A9, c9, h82, rfl, hI2⟩; have hb := hI2.below; have hI' := hI.join hI2; clear hI2; (try replace HM1 := Lib.hid (HM1.out.grow hb)); (try clear hb); replace hI := hI'; clear hI'; replace cF := hI.facts; (try simp only [mm, Act.put, Act.eval] at hI cF))
    | ((with_reducible refine at_store ?_); first | (refine listI rfl fun K hK => wpI_storeW _ _ _ rfl hI rfl 3 rfl rfl (by rw [hsz1, List.size_toArray, machL_length h82]) (info_mach h82) (machL_one h82 (hI.one (i := 4) rfl) (hI.one (i := 5) rfl) (hI.one (i := 6) rfl)) fun w' hI' => hK _ _ ?_; clear hK K; (try replace HM1 := Lib.hid (HM1.out.grow hb)); (try clear hb); replace hI := hI'; clear hI'; replace cF := hI.facts; (try simp only [mm, Act.put, Act.eval] at hI cF))) | ((with_reducible refine at_store ?_); first | (refine listI rfl fun K hK => wpI_storeW _ _ _ rfl hI rfl 2 rfl rfl rfl (by kernel_rfl) (by simp [Value.oneCell']) fun w' hI' => hK _ _ ?_; clear hK K; (try replace HM1 := Lib.hid (HM1.out.grow hb)); (try clear hb); replace hI := hI'; clear hI'; replace cF := hI.facts; (try simp only [mm, Act.put, Act.eval] at hI cF)))
    | (go_at_call 43; (with_reducible refine (r_Copy_V A c xs _ hx1 hx2 (hI.lies HL.out)).mono ?_); rintro e w' ⟨A2, A2k, rfl, hO, -, hb⟩; have hI' := hI.ownrow hb hO; clear hO; (try replace HM1 := Lib.hid (HM1.out.grow hb)); (try clear hb); replace hI := hI'; clear hI'; replace cF := hI.facts; (try simp only [mm, Act.put, Act.eval] at hI cF))
    | fail)
  have hbx := hI.box (i := 2) rfl
  ((try simp only [Exit.inBlock, Exit.then]); refine bodyPost_ret (results_ct rfl rfl hbx Tryz.underlying53 rfl (by kernel_rfl)) rfl ?_)
  exact ⟨none, 0, A2, A2k, rfl, (hI.nilrow 3 1).pick [9, 8] [_, _] (by decide) rfl⟩
set_option maxHeartbeats 4000000 in
theorem r_Do_ok (he : es.length ≤ e) (he' : e ≤ maxLen) (ho : l.length ≤ maxLen) (hwf : ∀ (i : Nat) v, xs[i]? = some v → Val.Wf v) (hwe : ∀ (i : Nat) v, es[i]? = some v → Entry.Wf v) (hE : Env w) (hL : Lies encV 7 w w.heap.size A xs) (hM : Lies encE 11 w w.heap.size E es) (hN : Lies encI 1 w w.heap.size O l) (h0 : (enterF xs es s l).2 = 0) (hr : (runF (enterF xs es s l).1 fuel).2.2.2 = true) :
    Calls Tryz.prog 21 #[.agg #[.slice A xs.length c, .slice Ap np cp, .slice E es.length e], .agg #[.string s, .slice O l.length o, .int .i64 fuel]] w (RetDo2 w (doJob xs es s l fuel).1 (doJob xs es s l fuel).2) := by
  have HL := Lib.hid hL
  have HC := Lib.hid (fun w h1 h2 h3 => r_Enter A E Ap O c e np cp o xs es s l w he he' ho hwf hwe h1 h2 h3)
  have HM := Lib.hid hM
  have HN := Lib.hid hN
  have HE := Lib.hid hE
  have hmo := enterF_mach h0
  have HR := Lib.hid (fun mc w h1 h2 => r_RunR mc (enterF xs es s l).1 (MachOk.wf hmo) fuel w h1 h2)
  have hne := fun h => Bool.false_ne_true (((runF_ran hmo fuel).2 h).symm.trans hr)
  have hjob : doJob xs es s l fuel = (⟨if (runF (enterF xs es s l).1 fuel).2.2.1 = 16 then 0 else (runF (enterF xs es s l).1 fuel).2.2.1, if (regV (runF (enterF xs es s l).1 fuel).1 0).is = true then 0 else (regV (runF (enterF xs es s l).1 fuel).1 0).n, (runF (enterF xs es s l).1 fuel).1.out, (runF (enterF xs es s l).1 fuel).2.1.length⟩, (runF (enterF xs es s l).1 fuel).1.mem) := by
    unfold doJob; rw [if_neg (by rw [h0]; simp), if_neg (by rw [hr]; simp)]
  rw [hjob]
  clear hL hM hN hE hmo hjob
  generalize enterF xs es s l = q at *
  obtain ⟨m1, er⟩ := q
  dsimp only at h0 HC HR hr hne ⊢
  subst h0
  generalize runF m1 fuel = r at *
  obtain ⟨m2, ps, e2, ran⟩ := r
  dsimp only at hr HR hne ⊢
  subst hr
  have hn1 : (e2 == 1) = false := by simpa using hne
  clear hne
  obtain ⟨x, hx⟩ : ∃ x, regV m2 0 = x := ⟨_, rfl⟩
  rw [hx]
  have HX0 := Lib.hid (show m2.regs.length = 8 → m2.regs[0]? = some x from fun h8 => by
    rw [← hx]; unfold regV
    rw [List.getD_eq_getElem?_getD, show (0 : Int).toNat = 0 from rfl, List.getElem?_eq_getElem (by omega)]
    rfl)
  clear hx
  by_cases h16 : e2 = 16
  · subst h16
    rw [if_pos rfl]
    cases hxi : x.is
    · have hjn : (if false = true then (0 : Int) else x.n) = x.n := rfl
      rw [hjn]
      go_enter Tryz.func21, Tryz.ntmps21
      have hI := Inv.start w
      go_wp2_with (first
        | ((with_reducible refine at_box ?_); first | (refine listI rfl fun K hK => wpI_box _ _ rfl hI rfl fun gx w' hI' hb => hK _ _ ?_; clear hK K; (try replace HM1 := Lib.hid (HM1.out.grow hb)); (try clear hb); replace hI := hI'; clear hI'; replace cF := hI.facts; (try simp only [mm, Act.put, Act.eval] at hI cF)) | (refine listI rfl fun K hK => wpI_box1 _ _ rfl hI rfl rfl fun gx w' hI' hb => hK _ _ ?_; clear hK K; (try replace HM1 := Lib.hid (HM1.out.grow hb)); (try clear hb); replace hI := hI'; clear hI'; replace cF := hI.facts; (try simp only [mm, Act.put, Act.eval] at hI cF)))
        | ((with_reducible refine at_alloc ?_); first | (refine listI rfl fun K hK => wpI_alloc 53 rfl hI Tryz.zeroValue53 (cs := #[.int .i64 0, .int .i64 0, .slice none 0 0, .int .i64 0]) (by first | rfl | kernel_rfl) fun gx w' hI' hb => hK _ _ ?_; clear hK K; (try replace HM1 := Lib.hid (HM1.out.grow hb)); (try clear hb); replace hI := hI'; clear hI'; replace cF := hI.facts; (try simp only [mm, Act.put, Act.eval] at hI cF)))
        | (go_at_call 42; (with_reducible refine (HC.out _ (hI.lies HL.out) (hI.lies HM.out) (hI.lies HN.out)).mono ?_); rintro e w' ⟨mc1, rfl, hm1, hb⟩; have hI' := hI.on hb; have hsz1 := hm1.size; (try replace HM1 := Lib.hid (HM1.out.grow hb)); (try clear hb); replace hI := hI'; clear hI'; replace cF := hI.facts; (try simp only [mm, Act.put, Act.eval] at hI cF); have HM1 := Lib.hid hm1; have HO1 := Lib.hid hm1.one; clear hm1) | ((with_reducible refine at_alloc ?_); first | (refine lv 31 hI Tryz.zeroValue31 fun gx w' hI' hb => ?_; (try replace HM1 := Lib.hid (HM1.out.grow hb)); (try clear hb); replace hI := hI'; clear hI'; replace cF := hI.facts; (try simp only [mm, Act.put, Act.eval] at hI cF))) | ((with_reducible refine at_load ?_); first | (refine wpList_load_box rfl 31 _ rfl (hI.box (i := 3) rfl) rfl Tryz.underlying31 rfl (by first | exact info_mach (by assumption) | (simp only [hsz1]; kernel_rfl) | (simp only [hsz2]; kernel_rfl) | (simp only [hsz]; kernel_rfl) | kernel_rfl) ?_))
        | (go_at_call 17; refine (HR.out mc1 _ HM1.out (HE.out.inv hI)).mono ?_; rintro e w' ⟨va, vs, vo, A9, c9, h82, rfl, hI2⟩; have hb := hI2.below; have hI' := hI.join hI2; clear hI2; (try replace HM1 := Lib.hid (HM1.out.grow hb)); (try clear hb); replace hI := hI'; clear hI'; replace cF := hI.facts; (try simp only [mm, Act.put, Act.eval] at hI cF); obtain ⟨Am, ca, rfl⟩ := (InvT.own0 (enc := encV) (xs := m2.mem) (size := 7) hI (i := 4) rfl).form; obtain ⟨Ao, co, rfl⟩ := (InvT.own0 (enc := encI) (xs := m2.out) (size := 1) hI (i := 6) rfl).form; have P0 := machL_reg (k := m2.code) (a := .slice Am m2.mem.length ca) (b := vs) (c := .slice Ao m2.out.length co) h82 (HX0.out h82) (j := 0) (by decide); have P1 := machL_reg (k := m2.code) (a := .slice Am m2.mem.length ca) (b := vs) (c := .slice Ao m2.out.length co) h82 (HX0.out h82) (j := 1) (by decide); obtain ⟨mc2, hmc2⟩ : ∃ mc2, (machL m2.regs m2.code (.slice Am m2.mem.length ca) vs (.slice Ao m2.out.length co)).toArray = mc2 := ⟨_, rfl⟩; have p61 : mc2[61]? = some (.slice Am m2.mem.length ca) := (by rw [← hmc2, List.getElem?_toArray]; exact machL_61 h82); have p63 : mc2[63]? = some (.slice Ao m2.out.length co) := (by rw [← hmc2, List.getElem?_toArray]; exact machL_63 h82); have q0 : mc2[0]? = some (.bool x.is) := (by rw [← hmc2, List.getElem?_toArray]; exact P0); have q1 : mc2[1]? = some (.int .i64 x.n) := (by rw [← hmc2, List.getElem?_toArray]; exact P1); have HMC2 := Lib.hid hmc2; have HS2 := Lib.hid (show mc2.size = 64 by rw [← hmc2, List.size_toArray]; exact machL_length h82); rw [hmc2]; clear hmc2 P0 P1)
        | ((with_reducible refine at_store ?_); first | (refine listI rfl fun K hK => wpI_storeW _ _ _ rfl hI rfl 3 rfl rfl (hsz1.trans HS2.out.symm) (by rw [HS2.out]; kernel_rfl) (by rw [← HMC2.out]; exact machL_one h82 (hI.one (i := 4) rfl) (hI.one (i := 5) rfl) (hI.one (i := 6) rfl)) fun w' hI' => hK _ _ ?_; clear hK K; (try replace HM1 := Lib.hid (HM1.out.grow hb)); (try clear hb); replace hI := hI'; clear hI'; replace cF := hI.facts; (try simp only [mm, Act.put, Act.eval] at hI cF))) | ((with_reducible refine at_store ?_); first | (refine listI rfl fun K hK => wpI_storeW _ _ _ rfl hI rfl 8 rfl rfl rfl (by kernel_rfl) (by simp [Value.oneCell']) fun w' hI' => hK _ _ ?_; clear hK K; (try replace HM1 := Lib.hid (HM1.out.grow hb)); (try clear hb); replace hI := hI'; clear hI'; replace cF := hI.facts; (try simp only [mm, Act.put, Act.eval] at hI cF)))
        | ((with_reducible refine at_store ?_); first | (refine listI rfl fun K hK => wpI_store1 _ _ _ rfl hI rfl 8 rfl rfl rfl (by simp) (by kernel_rfl) fun w' hI' => hK _ _ ?_; clear hK K; (try replace HM1 := Lib.hid (HM1.out.grow hb)); (try clear hb); replace hI := hI'; clear hI'; replace cF := hI.facts; (try simp only [mm, Act.put, Act.eval] at hI cF)))
        | fail)
      (refine wp_region_K [3, 8] (by kernel_rfl) hI fun w' hI' hHeld => ?_; (try replace HM1 := Lib.hid (HM1.out.grow hb)); (try clear hb); replace hI := hI'; clear hI'; replace cF := hI.facts; (try simp only [mm, Act.put, Act.eval] at hI cF))
      (refine takeH (i := 0) rfl (by kernel_rfl) (by kernel_rfl) (by kernel_rfl) (fun _ _ _ _ h => h) (by rfl) (by assumption) ⟨_, fun W hSw => run_load_box 53 (.tmp 10) rfl rfl (hSw.box 8 (by decide) rfl) Tryz.underlying53 rfl (by first | exact info_mach (by assumption) | (simp only [hsz1]; kernel_rfl) | (simp only [hsz2]; kernel_rfl) | (simp only [hsz]; kernel_rfl) | kernel_rfl), ?_⟩; (try simp only [Act.put, List.setIfInBounds_toArray, List.set_cons_zero, List.set_cons_succ]))
      (refine tk 1 ?_; (try simp only [np, Act.put])); (refine tk 2 ?_; (try simp only [np, Act.put]))
      refine oneH (i := 3) (by kernel_rfl) rfl (fun K hK => ?_)
      (refine stepI rfl (wpI_storeW _ _ _ rfl hI rfl 2 rfl rfl rfl (by kernel_rfl) (by simp [Value.oneCell']) fun w' hI' => hK.out _ _ (hI'.held (by simp)) (fun hHeld => ?_)); clear hK K; (try replace HM1 := Lib.hid (HM1.out.grow hb)); (try clear hb); replace hI := hI'; clear hI'; replace cF := hI.facts; (try simp only [mm, Act.put, Act.eval] at hI cF); (try simp only [np, Act.put]))
      (refine tk 4 ?_; (try simp only [np, Act.put]))
      refine wpAnyH_done (by kernel_rfl) ?_ _
      clear hHeld
      go_wp2_with fail
      have hbx := hI.box (i := 2) rfl
      ((try simp only [Exit.inBlock, Exit.then]); refine bodyPost_ret (results_ct rfl rfl hbx Tryz.underlying53 rfl (by kernel_rfl)) rfl ?_)
      exact ⟨Ao, co, Am, ca, rfl, hI.pick [6, 4] [_, _] (by decide) rfl⟩
    · have hjn : (if true = true then (0 : Int) else x.n) = 0 := rfl
      rw [hjn]
      go_enter Tryz.func21, Tryz.ntmps21
      have hI := Inv.start w
      go_wp2_with (first
        | ((with_reducible refine at_box ?_); first | (refine listI rfl fun K hK => wpI_box _ _ rfl hI rfl fun gx w' hI' hb => hK _ _ ?_; clear hK K; (try replace HM1 := Lib.hid (HM1.out.grow hb)); (try clear hb); replace hI := hI'; clear hI'; replace cF := hI.facts; (try simp only [mm, Act.put, Act.eval] at hI cF)) | (refine listI rfl fun K hK => wpI_box1 _ _ rfl hI rfl rfl fun gx w' hI' hb => hK _ _ ?_; clear hK K; (try replace HM1 := Lib.hid (HM1.out.grow hb)); (try clear hb); replace hI := hI'; clear hI'; replace cF := hI.facts; (try simp only [mm, Act.put, Act.eval] at hI cF)))
        | ((with_reducible refine at_alloc ?_); first | (refine listI rfl fun K hK => wpI_alloc 53 rfl hI Tryz.zeroValue53 (cs := #[.int .i64 0, .int .i64 0, .slice none 0 0, .int .i64 0]) (by first | rfl | kernel_rfl) fun gx w' hI' hb => hK _ _ ?_; clear hK K; (try replace HM1 := Lib.hid (HM1.out.grow hb)); (try clear hb); replace hI := hI'; clear hI'; replace cF := hI.facts; (try simp only [mm, Act.put, Act.eval] at hI cF)))
        | (go_at_call 42; (with_reducible refine (HC.out _ (hI.lies HL.out) (hI.lies HM.out) (hI.lies HN.out)).mono ?_); rintro e w' ⟨mc1, rfl, hm1, hb⟩; have hI' := hI.on hb; have hsz1 := hm1.size; (try replace HM1 := Lib.hid (HM1.out.grow hb)); (try clear hb); replace hI := hI'; clear hI'; replace cF := hI.facts; (try simp only [mm, Act.put, Act.eval] at hI cF); have HM1 := Lib.hid hm1; have HO1 := Lib.hid hm1.one; clear hm1) | ((with_reducible refine at_alloc ?_); first | (refine lv 31 hI Tryz.zeroValue31 fun gx w' hI' hb => ?_; (try replace HM1 := Lib.hid (HM1.out.grow hb)); (try clear hb); replace hI := hI'; clear hI'; replace cF := hI.facts; (try simp only [mm, Act.put, Act.eval] at hI cF))) | ((with_reducible refine at_load ?_); first | (refine wpList_load_box rfl 31 _ rfl (hI.box (i := 3) rfl) rfl Tryz.underlying31 rfl (by first | exact info_mach (by assumption) | (simp only [hsz1]; kernel_rfl) | (simp only [hsz2]; kernel_rfl) | (simp only [hsz]; kernel_rfl) | kernel_rfl) ?_))
        | (go_at_call 17; refine (HR.out mc1 _ HM1.out (HE.out.inv hI)).mono ?_; rintro e w' ⟨va, vs, vo, A9, c9, h82, rfl, hI2⟩; have hb := hI2.below; have hI' := hI.join hI2; clear hI2; (try replace HM1 := Lib.hid (HM1.out.grow hb)); (try clear hb); replace hI := hI'; clear hI'; replace cF := hI.facts; (try simp only [mm, Act.put, Act.eval] at hI cF); obtain ⟨Am, ca, rfl⟩ := (InvT.own0 (enc := encV) (xs := m2.mem) (size := 7) hI (i := 4) rfl).form; obtain ⟨Ao, co, rfl⟩ := (InvT.own0 (enc := encI) (xs := m2.out) (size := 1) hI (i := 6) rfl).form; have P0 := machL_reg (k := m2.code) (a := .slice Am m2.mem.length ca) (b := vs) (c := .slice Ao m2.out.length co) h82 (HX0.out h82) (j := 0) (by decide); have P1 := machL_reg (k := m2.code) (a := .slice Am m2.mem.length ca) (b := vs) (c := .slice Ao m2.out.length co) h82 (HX0.out h82) (j := 1) (by decide); obtain ⟨mc2, hmc2⟩ : ∃ mc2, (machL m2.regs m2.code (.slice Am m2.mem.length ca) vs (.slice Ao m2.out.length co)).toArray = mc2 := ⟨_, rfl⟩; have p61 : mc2[61]? = some (.slice Am m2.mem.length ca) := (by rw [← hmc2, List.getElem?_toArray]; exact machL_61 h82); have p63 : mc2[63]? = some (.slice Ao m2.out.length co) := (by rw [← hmc2, List.getElem?_toArray]; exact machL_63 h82); have q0 : mc2[0]? = some (.bool x.is) := (by rw [← hmc2, List.getElem?_toArray]; exact P0); have q1 : mc2[1]? = some (.int .i64 x.n) := (by rw [← hmc2, List.getElem?_toArray]; exact P1); have HMC2 := Lib.hid hmc2; have HS2 := Lib.hid (show mc2.size = 64 by rw [← hmc2, List.size_toArray]; exact machL_length h82); rw [hmc2]; clear hmc2 P0 P1)
        | ((with_reducible refine at_store ?_); first | (refine listI rfl fun K hK => wpI_storeW _ _ _ rfl hI rfl 3 rfl rfl (hsz1.trans HS2.out.symm) (by rw [HS2.out]; kernel_rfl) (by rw [← HMC2.out]; exact machL_one h82 (hI.one (i := 4) rfl) (hI.one (i := 5) rfl) (hI.one (i := 6) rfl)) fun w' hI' => hK _ _ ?_; clear hK K; (try replace HM1 := Lib.hid (HM1.out.grow hb)); (try clear hb); replace hI := hI'; clear hI'; replace cF := hI.facts; (try simp only [mm, Act.put, Act.eval] at hI cF))) | ((with_reducible refine at_store ?_); first | (refine listI rfl fun K hK => wpI_storeW _ _ _ rfl hI rfl 8 rfl rfl rfl (by kernel_rfl) (by simp [Value.oneCell']) fun w' hI' => hK _ _ ?_; clear hK K; (try replace HM1 := Lib.hid (HM1.out.grow hb)); (try clear hb); replace hI := hI'; clear hI'; replace cF := hI.facts; (try simp only [mm, Act.put, Act.eval] at hI cF)))
        | ((with_reducible refine at_store ?_); first | (refine listI rfl fun K hK => wpI_store1 _ _ _ rfl hI rfl 8 rfl rfl rfl (by simp) (by kernel_rfl) fun w' hI' => hK _ _ ?_; clear hK K; (try replace HM1 := Lib.hid (HM1.out.grow hb)); (try clear hb); replace hI := hI'; clear hI'; replace cF := hI.facts; (try simp only [mm, Act.put, Act.eval] at hI cF)))
        | fail)
      (refine wp_region_K [3, 8] (by kernel_rfl) hI fun w' hI' hHeld => ?_; (try replace HM1 := Lib.hid (HM1.out.grow hb)); (try clear hb); replace hI := hI'; clear hI'; replace cF := hI.facts; (try simp only [mm, Act.put, Act.eval] at hI cF))
      (refine takeH (i := 0) rfl (by kernel_rfl) (by kernel_rfl) (by kernel_rfl) (fun _ _ _ _ h => h) (by rfl) (by assumption) ⟨_, fun W hSw => run_load_box 53 (.tmp 10) rfl rfl (hSw.box 8 (by decide) rfl) Tryz.underlying53 rfl (by first | exact info_mach (by assumption) | (simp only [hsz1]; kernel_rfl) | (simp only [hsz2]; kernel_rfl) | (simp only [hsz]; kernel_rfl) | kernel_rfl), ?_⟩; (try simp only [Act.put, List.setIfInBounds_toArray, List.set_cons_zero, List.set_cons_succ]))
      (refine tk 1 ?_; (try simp only [np, Act.put])); (refine tk 2 ?_; (try simp only [np, Act.put]))
      refine oneH (i := 3) (by kernel_rfl) rfl (fun K hK => ?_)
      (refine stepI rfl (wpI_storeW _ _ _ rfl hI rfl 2 rfl rfl rfl (by kernel_rfl) (by simp [Value.oneCell']) fun w' hI' => hK.out _ _ (hI'.held (by simp)) (fun hHeld => ?_)); clear hK K; (try replace HM1 := Lib.hid (HM1.out.grow hb)); (try clear hb); replace hI := hI'; clear hI'; replace cF := hI.facts; (try simp only [mm, Act.put, Act.eval] at hI cF); (try simp only [np, Act.put]))
      (refine tk 4 ?_; (try simp only [np, Act.put]))
      refine wpAnyH_done (by kernel_rfl) ?_ _
      clear hHeld
      go_wp2_with fail
      have hbx := hI.box (i := 2) rfl
      ((try simp only [Exit.inBlock, Exit.then]); refine bodyPost_ret (results_ct rfl rfl hbx Tryz.underlying53 rfl (by kernel_rfl)) rfl ?_)
      exact ⟨Ao, co, Am, ca, rfl, hI.pick [6, 4] [_, _] (by decide) rfl⟩
  · rw [if_neg h16]
    have hn16 : (e2 == 16) = false := by simpa using h16
    cases hxi : x.is
    · have hjn : (if false = true then (0 : Int) else x.n) = x.n := rfl
      rw [hjn]
      go_enter Tryz.func21, Tryz.ntmps21
      have hI := Inv.start w
      go_wp2_with (first
        | ((with_reducible refine at_box ?_); first | (refine listI rfl fun K hK => wpI_box _ _ rfl hI rfl fun gx w' hI' hb => hK _ _ ?_; clear hK K; (try replace HM1 := Lib.hid (HM1.out.grow hb)); (try clear hb); replace hI := hI'; clear hI'; replace cF := hI.facts; (try simp only [mm, Act.put, Act.eval] at hI cF)) | (refine listI rfl fun K hK => wpI_box1 _ _ rfl hI rfl rfl fun gx w' hI' hb => hK _ _ ?_; clear hK K; (try replace HM1 := Lib.hid (HM1.out.grow hb)); (try clear hb); replace hI := hI'; clear hI'; replace cF := hI.facts; (try simp only [mm, Act.put, Act.eval] at hI cF)))
        | ((with_reducible refine at_alloc ?_); first | (refine listI rfl fun K hK => wpI_alloc 53 rfl hI Tryz.zeroValue53 (cs := #[.int .i64 0, .int .i64 0, .slice none 0 0, .int .i64 0]) (by first | rfl | kernel_rfl) fun gx w' hI' hb => hK _ _ ?_; clear hK K; (try replace HM1 := Lib.hid (HM1.out.grow hb)); (try clear hb); replace hI := hI'; clear hI'; replace cF := hI.facts; (try simp only [mm, Act.put, Act.eval] at hI cF)))
        | (go_at_call 42; (with_reducible refine (HC.out _ (hI.lies HL.out) (hI.lies HM.out) (hI.lies HN.out)).mono ?_); rintro e w' ⟨mc1, rfl, hm1, hb⟩; have hI' := hI.on hb; have hsz1 := hm1.size; (try replace HM1 := Lib.hid (HM1.out.grow hb)); (try clear hb); replace hI := hI'; clear hI'; replace cF := hI.facts; (try simp only [mm, Act.put, Act.eval] at hI cF); have HM1 := Lib.hid hm1; have HO1 := Lib.hid hm1.one; clear hm1) | ((with_reducible refine at_alloc ?_); first | (refine lv 31 hI Tryz.zeroValue31 fun gx w' hI' hb => ?_; (try replace HM1 := Lib.hid (HM1.out.grow hb)); (try clear hb); replace hI := hI'; clear hI'; replace cF := hI.facts; (try simp only [mm, Act.put, Act.eval] at hI cF))) | ((with_reducible refine at_load ?_); first | (refine wpList_load_box rfl 31 _ rfl (hI.box (i := 3) rfl) rfl Tryz.underlying31 rfl (by first | exact info_mach (by assumption) | (simp only [hsz1]; kernel_rfl) | (simp only [hsz2]; kernel_rfl) | (simp only [hsz]; kernel_rfl) | kernel_rfl) ?_))
        | (go_at_call 17; refine (HR.out mc1 _ HM1.out (HE.out.inv hI)).mono ?_; rintro e w' ⟨va, vs, vo, A9, c9, h82, rfl, hI2⟩; have hb := hI2.below; have hI' := hI.join hI2; clear hI2; (try replace HM1 := Lib.hid (HM1.out.grow hb)); (try clear hb); replace hI := hI'; clear hI'; replace cF := hI.facts; (try simp only [mm, Act.put, Act.eval] at hI cF); obtain ⟨Am, ca, rfl⟩ := (InvT.own0 (enc := encV) (xs := m2.mem) (size := 7) hI (i := 4) rfl).form; obtain ⟨Ao, co, rfl⟩ := (InvT.own0 (enc := encI) (xs := m2.out) (size := 1) hI (i := 6) rfl).form; have P0 := machL_reg (k := m2.code) (a := .slice Am m2.mem.length ca) (b := vs) (c := .slice Ao m2.out.length co) h82 (HX0.out h82) (j := 0) (by decide); have P1 := machL_reg (k := m2.code) (a := .slice Am m2.mem.length ca) (b := vs) (c := .slice Ao m2.out.length co) h82 (HX0.out h82) (j := 1) (by decide); obtain ⟨mc2, hmc2⟩ : ∃ mc2, (machL m2.regs m2.code (.slice Am m2.mem.length ca) vs (.slice Ao m2.out.length co)).toArray = mc2 := ⟨_, rfl⟩; have p61 : mc2[61]? = some (.slice Am m2.mem.length ca) := (by rw [← hmc2, List.getElem?_toArray]; exact machL_61 h82); have p63 : mc2[63]? = some (.slice Ao m2.out.length co) := (by rw [← hmc2, List.getElem?_toArray]; exact machL_63 h82); have q0 : mc2[0]? = some (.bool x.is) := (by rw [← hmc2, List.getElem?_toArray]; exact P0); have q1 : mc2[1]? = some (.int .i64 x.n) := (by rw [← hmc2, List.getElem?_toArray]; exact P1); have HMC2 := Lib.hid hmc2; have HS2 := Lib.hid (show mc2.size = 64 by rw [← hmc2, List.size_toArray]; exact machL_length h82); rw [hmc2]; clear hmc2 P0 P1)
        | ((with_reducible refine at_store ?_); first | (refine listI rfl fun K hK => wpI_storeW _ _ _ rfl hI rfl 3 rfl rfl (hsz1.trans HS2.out.symm) (by rw [HS2.out]; kernel_rfl) (by rw [← HMC2.out]; exact machL_one h82 (hI.one (i := 4) rfl) (hI.one (i := 5) rfl) (hI.one (i := 6) rfl)) fun w' hI' => hK _ _ ?_; clear hK K; (try replace HM1 := Lib.hid (HM1.out.grow hb)); (try clear hb); replace hI := hI'; clear hI'; replace cF := hI.facts; (try simp only [mm, Act.put, Act.eval] at hI cF))) | ((with_reducible refine at_store ?_); first | (refine listI rfl fun K hK => wpI_storeW _ _ _ rfl hI rfl 8 rfl rfl rfl (by kernel_rfl) (by simp [Value.oneCell']) fun w' hI' => hK _ _ ?_; clear hK K; (try replace HM1 := Lib.hid (HM1.out.grow hb)); (try clear hb); replace hI := hI'; clear hI'; replace cF := hI.facts; (try simp only [mm, Act.put, Act.eval] at hI cF)))
        | ((with_reducible refine at_store ?_); first | (refine listI rfl fun K hK => wpI_store1 _ _ _ rfl hI rfl 8 rfl rfl rfl (by simp) (by kernel_rfl) fun w' hI' => hK _ _ ?_; clear hK K; (try replace HM1 := Lib.hid (HM1.out.grow hb)); (try clear hb); replace hI := hI'; clear hI'; replace cF := hI.facts; (try simp only [mm, Act.put, Act.eval] at hI cF)))
        | fail)
      (refine wp_region_K [3, 8] (by kernel_rfl) hI fun w' hI' hHeld => ?_; (try replace HM1 := Lib.hid (HM1.out.grow hb)); (try clear hb); replace hI := hI'; clear hI'; replace cF := hI.facts; (try simp only [mm, Act.put, Act.eval] at hI cF))
      (refine takeH (i := 0) rfl (by kernel_rfl) (by kernel_rfl) (by kernel_rfl) (fun _ _ _ _ h => h) (by rfl) (by assumption) ⟨_, fun W hSw => run_load_box 53 (.tmp 10) rfl rfl (hSw.box 8 (by decide) rfl) Tryz.underlying53 rfl (by first | exact info_mach (by assumption) | (simp only [hsz1]; kernel_rfl) | (simp only [hsz2]; kernel_rfl) | (simp only [hsz]; kernel_rfl) | kernel_rfl), ?_⟩; (try simp only [Act.put, List.setIfInBounds_toArray, List.set_cons_zero, List.set_cons_succ]))
      (refine tk 1 ?_; (try simp only [np, Act.put])); (refine tk 2 ?_; (try simp only [np, Act.put]))
      refine oneH (i := 3) (by kernel_rfl) rfl (fun K hK => ?_)
      (refine stepI rfl (wpI_storeW _ _ _ rfl hI rfl 2 rfl rfl rfl (by kernel_rfl) (by simp [Value.oneCell']) fun w' hI' => hK.out _ _ (hI'.held (by simp)) (fun hHeld => ?_)); clear hK K; (try replace HM1 := Lib.hid (HM1.out.grow hb)); (try clear hb); replace hI := hI'; clear hI'; replace cF := hI.facts; (try simp only [mm, Act.put, Act.eval] at hI cF); (try simp only [np, Act.put]))
      (refine tk 4 ?_; (try simp only [np, Act.put]))
      refine wpAnyH_done (by kernel_rfl) ?_ _
      clear hHeld
      go_wp2_with fail
      have hbx := hI.box (i := 2) rfl
      ((try simp only [Exit.inBlock, Exit.then]); refine bodyPost_ret (results_ct rfl rfl hbx Tryz.underlying53 rfl (by kernel_rfl)) rfl ?_)
      exact ⟨Ao, co, Am, ca, rfl, hI.pick [6, 4] [_, _] (by decide) rfl⟩
    · have hjn : (if true = true then (0 : Int) else x.n) = 0 := rfl
      rw [hjn]
      go_enter Tryz.func21, Tryz.ntmps21
      have hI := Inv.start w
      go_wp2_with (first
        | ((with_reducible refine at_box ?_); first | (refine listI rfl fun K hK => wpI_box _ _ rfl hI rfl fun gx w' hI' hb => hK _ _ ?_; clear hK K; (try replace HM1 := Lib.hid (HM1.out.grow hb)); (try clear hb); replace hI := hI'; clear hI'; replace cF := hI.facts; (try simp only [mm, Act.put, Act.eval] at hI cF)) | (refine listI rfl fun K hK => wpI_box1 _ _ rfl hI rfl rfl fun gx w' hI' hb => hK _ _ ?_; clear hK K; (try replace HM1 := Lib.hid (HM1.out.grow hb)); (try clear hb); replace hI := hI'; clear hI'; replace cF := hI.facts; (try simp only [mm, Act.put, Act.eval] at hI cF)))
        | ((with_reducible refine at_alloc ?_); first | (refine listI rfl fun K hK => wpI_alloc 53 rfl hI Tryz.zeroValue53 (cs := #[.int .i64 0, .int .i64 0, .slice none 0 0, .int .i64 0]) (by first | rfl | kernel_rfl) fun gx w' hI' hb => hK _ _ ?_; clear hK K; (try replace HM1 := Lib.hid (HM1.out.grow hb)); (try clear hb); replace hI := hI'; clear hI'; replace cF := hI.facts; (try simp only [mm, Act.put, Act.eval] at hI cF)))
        | (go_at_call 42; (with_reducible refine (HC.out _ (hI.lies HL.out) (hI.lies HM.out) (hI.lies HN.out)).mono ?_); rintro e w' ⟨mc1, rfl, hm1, hb⟩; have hI' := hI.on hb; have hsz1 := hm1.size; (try replace HM1 := Lib.hid (HM1.out.grow hb)); (try clear hb); replace hI := hI'; clear hI'; replace cF := hI.facts; (try simp only [mm, Act.put, Act.eval] at hI cF); have HM1 := Lib.hid hm1; have HO1 := Lib.hid hm1.one; clear hm1) | ((with_reducible refine at_alloc ?_); first | (refine lv 31 hI Tryz.zeroValue31 fun gx w' hI' hb => ?_; (try replace HM1 := Lib.hid (HM1.out.grow hb)); (try clear hb); replace hI := hI'; clear hI'; replace cF := hI.facts; (try simp only [mm, Act.put, Act.eval] at hI cF))) | ((with_reducible refine at_load ?_); first | (refine wpList_load_box rfl 31 _ rfl (hI.box (i := 3) rfl) rfl Tryz.underlying31 rfl (by first | exact info_mach (by assumption) | (simp only [hsz1]; kernel_rfl) | (simp only [hsz2]; kernel_rfl) | (simp only [hsz]; kernel_rfl) | kernel_rfl) ?_))
        | (go_at_call 17; refine (HR.out mc1 _ HM1.out (HE.out.inv hI)).mono ?_; rintro e w' ⟨va, vs, vo, A9, c9, h82, rfl, hI2⟩; have hb := hI2.below; have hI' := hI.join hI2; clear hI2; (try replace HM1 := Lib.hid (HM1.out.grow hb)); (try clear hb); replace hI := hI'; clear hI'; replace cF := hI.facts; (try simp only [mm, Act.put, Act.eval] at hI cF); obtain ⟨Am, ca, rfl⟩ := (InvT.own0 (enc := encV) (xs := m2.mem) (size := 7) hI (i := 4) rfl).form; obtain ⟨Ao, co, rfl⟩ := (InvT.own0 (enc := encI) (xs := m2.out) (size := 1) hI (i := 6) rfl).form; have P0 := machL_reg (k := m2.code) (a := .slice Am m2.mem.length ca) (b := vs) (c := .slice Ao m2.out.length co) h82 (HX0.out h82) (j := 0) (by decide); have P1 := machL_reg (k := m2.code) (a := .slice Am m2.mem.length ca) (b := vs) (c := .slice Ao m2.out.length co) h82 (HX0.out h82) (j := 1) (by decide); obtain ⟨mc2, hmc2⟩ : ∃ mc2, (machL m2.regs m2.code (.slice Am m2.mem.length ca) vs (.slice Ao m2.out.length co)).toArray = mc2 := ⟨_, rfl⟩; have p61 : mc2[61]? = some (.slice Am m2.mem.length ca) := (by rw [← hmc2, List.getElem?_toArray]; exact machL_61 h82); have p63 : mc2[63]? = some (.slice Ao m2.out.length co) := (by rw [← hmc2, List.getElem?_toArray]; exact machL_63 h82); have q0 : mc2[0]? = some (.bool x.is) := (by rw [← hmc2, List.getElem?_toArray]; exact P0); have q1 : mc2[1]? = some (.int .i64 x.n) := (by rw [← hmc2, List.getElem?_toArray]; exact P1); have HMC2 := Lib.hid hmc2; have HS2 := Lib.hid (show mc2.size = 64 by rw [← hmc2, List.size_toArray]; exact machL_length h82); rw [hmc2]; clear hmc2 P0 P1)
        | ((with_reducible refine at_store ?_); first | (refine listI rfl fun K hK => wpI_storeW _ _ _ rfl hI rfl 3 rfl rfl (hsz1.trans HS2.out.symm) (by rw [HS2.out]; kernel_rfl) (by rw [← HMC2.out]; exact machL_one h82 (hI.one (i := 4) rfl) (hI.one (i := 5) rfl) (hI.one (i := 6) rfl)) fun w' hI' => hK _ _ ?_; clear hK K; (try replace HM1 := Lib.hid (HM1.out.grow hb)); (try clear hb); replace hI := hI'; clear hI'; replace cF := hI.facts; (try simp only [mm, Act.put, Act.eval] at hI cF))) | ((with_reducible refine at_store ?_); first | (refine listI rfl fun K hK => wpI_storeW _ _ _ rfl hI rfl 8 rfl rfl rfl (by kernel_rfl) (by simp [Value.oneCell']) fun w' hI' => hK _ _ ?_; clear hK K; (try replace HM1 := Lib.hid (HM1.out.grow hb)); (try clear hb); replace hI := hI'; clear hI'; replace cF := hI.facts; (try simp only [mm, Act.put, Act.eval] at hI cF)))
        | ((with_reducible refine at_store ?_); first | (refine listI rfl fun K hK => wpI_store1 _ _ _ rfl hI rfl 8 rfl rfl rfl (by simp) (by kernel_rfl) fun w' hI' => hK _ _ ?_; clear hK K; (try replace HM1 := Lib.hid (HM1.out.grow hb)); (try clear hb); replace hI := hI'; clear hI'; replace cF := hI.facts; (try simp only [mm, Act.put, Act.eval] at hI cF)))
        | fail)
      (refine wp_region_K [3, 8] (by kernel_rfl) hI fun w' hI' hHeld => ?_; (try replace HM1 := Lib.hid (HM1.out.grow hb)); (try clear hb); replace hI := hI'; clear hI'; replace cF := hI.facts; (try simp only [mm, Act.put, Act.eval] at hI cF))
      (refine takeH (i := 0) rfl (by kernel_rfl) (by kernel_rfl) (by kernel_rfl) (fun _ _ _ _ h => h) (by rfl) (by assumption) ⟨_, fun W hSw => run_load_box 53 (.tmp 10) rfl rfl (hSw.box 8 (by decide) rfl) Tryz.underlying53 rfl (by first | exact info_mach (by assumption) | (simp only [hsz1]; kernel_rfl) | (simp only [hsz2]; kernel_rfl) | (simp only [hsz]; kernel_rfl) | kernel_rfl), ?_⟩; (try simp only [Act.put, List.setIfInBounds_toArray, List.set_cons_zero, List.set_cons_succ]))
      (refine tk 1 ?_; (try simp only [np, Act.put])); (refine tk 2 ?_; (try simp only [np, Act.put]))
      refine oneH (i := 3) (by kernel_rfl) rfl (fun K hK => ?_)
      (refine stepI rfl (wpI_storeW _ _ _ rfl hI rfl 2 rfl rfl rfl (by kernel_rfl) (by simp [Value.oneCell']) fun w' hI' => hK.out _ _ (hI'.held (by simp)) (fun hHeld => ?_)); clear hK K; (try replace HM1 := Lib.hid (HM1.out.grow hb)); (try clear hb); replace hI := hI'; clear hI'; replace cF := hI.facts; (try simp only [mm, Act.put, Act.eval] at hI cF); (try simp only [np, Act.put]))
      (refine tk 4 ?_; (try simp only [np, Act.put]))
      refine wpAnyH_done (by kernel_rfl) ?_ _
      clear hHeld
      go_wp2_with fail
      have hbx := hI.box (i := 2) rfl
      ((try simp only [Exit.inBlock, Exit.then]); refine bodyPost_ret (results_ct rfl rfl hbx Tryz.underlying53 rfl (by kernel_rfl)) rfl ?_)
      exact ⟨Ao, co, Am, ca, rfl, hI.pick [6, 4] [_, _] (by decide) rfl⟩
end
end Go.Proofs.YthmpnnfejghhfaaGreatDoor
namespace Go.Proofs.YthmpnnfejghhfaaGreatDoor
open Go.ChangeShapes Go.WideShapes Go.RowKit Go.Deep
set_option linter.unusedVariables false
set_option linter.unusedSimpArgs false
set_option maxRecDepth 100000
section
variable {H : Type} {enc : TypeId × Value → H} {w : World} {base : Nat} {sp : Nat → Bool} {held : Bool}
theorem slice_weight {t e : TypeId} {fuel n c B : Nat} {A : Option Addr} {x : DataW H × List MemPlace} (ht : Tryz.prog.underlying t = some (.slice e)) (h : DataW.trod enc Tryz.prog w base sp held fuel t [.slice A n c] = some x) (hB : (x.1.weights Tryz.prog t).all (· ≤ B) = true) : n * Tryz.prog.bytesOf e ≤ B := by
  rcases open_slice ht h with ⟨hc, _⟩ | ⟨a, len, cap, m, n', D, Pl, hc, hb, hl, hm, hmm, rfl, hi⟩
  · simp only [List.cons.injEq, and_true] at hc
    injection hc with _ h2 _
    subst h2; simp
  · simp only [List.cons.injEq, and_true] at hc
    injection hc with _ h2 _
    subst h2
    simp only [DataW.weights, ht, List.length_map, List.length_range, List.all_cons, Bool.and_eq_true, decide_eq_true_eq] at hB
    exact Nat.le_trans (Nat.mul_le_mul_right _ (by omega)) hB.1
theorem image_weight {A : Option Addr} {n c B : Nat} {u1 u2 : Value} {d : DataW H} {ps : List MemPlace} (h : DataW.Trod enc Tryz.prog w base sp held 49 (.agg #[.slice A n c, u1, u2]) d ps) (hB : (d.weights Tryz.prog 49).all (· ≤ B) = true) : n * 56 ≤ B := by
  obtain ⟨fuel, hf0⟩ := h
  obtain ⟨ys, m, rfl, hd, hl, hx, hf⟩ := DataW.trod_struct Tryz.underlying49 hf0
  obtain ⟨rfl, -⟩ := Prod.mk.inj hd
  have hx' : ys.length = 3 := hx
  obtain ⟨y0, e0⟩ := some_at hx' (i := 0) (by omega)
  have g0 : DataW.trod enc Tryz.prog w base sp held m 27 [.slice A n c] = some y0 := field_at hf (i := 0) rfl rfl rfl cells_vals e0
  simp only [DataW.weights, Tryz.underlying49] at hB
  have h1 : (y0.1.weights Tryz.prog 27).all (· ≤ B) = true := List.all_eq_true.2 fun q hq => List.all_eq_true.1 hB q (DataW.weights_mem_each (j := 0) (t := 27) (d := y0.1) rfl (by rw [List.getElem?_map, e0]; rfl) q hq)
  have h2 := slice_weight Tryz.underlying27 g0 h1
  rwa [show Tryz.prog.bytesOf 25 = 56 by kernel_rfl] at h2
end
end Go.Proofs.YthmpnnfejghhfaaGreatDoor
namespace Go.Proofs.YthmpnnfejghhfaaGreatDoor
open Go.ChangeShapes Go.WideShapes Go.RowKit Go.Deep
set_option linter.unusedVariables false
set_option linter.unusedSimpArgs false
set_option maxRecDepth 100000
theorem doJob_enter {xs : List Val} {es : List Entry} {s : ByteArray} {l : List Int} {fuel : Int} (h : ¬ (enterF xs es s l).2 = 0) : doJob xs es s l fuel = (⟨(enterF xs es s l).2, 0, [], 0⟩, xs) := by
  unfold doJob; rw [if_pos h]
theorem doJob_nil (s : ByteArray) (l : List Int) (fuel : Int) : ((doJob [] [] s l fuel).1.e != 0) = true := by
  have h0 : (imgE [] [] != 0) = false := by decide
  have hf : (findE [] s).2 = false := by unfold findE; rfl
  have : ¬ (enterF [] [] s l).2 = 0 := by
    by_cases h1 : 7 < l.length
    · rw [enterF_large h0 h1]; decide
    · cases h2 : (firstE numE l != 0)
      · rw [enterF_none h0 h1 h2 hf]; decide
      · rw [enterF_num h0 h1 h2]; decide
  rw [doJob_enter this]
  simpa using this
section
variable (A E Ap O : Option Addr) (c e np cp o : Nat) (xs : List Val) (es : List Entry) (s : ByteArray) (l : List Int) (fuel : Int) (w : World)
theorem c_Do2 (he : es.length ≤ maxLen) (ho : l.length ≤ maxLen) (hE : Env w) (hx1 : xs.length ≤ maxLen) (hx2 : xs.length * 56 ≤ 140737488355328) (hL : Lies encV 7 w w.heap.size A xs) (hM : Lies encE 11 w w.heap.size E es) (hN : Lies encI 1 w w.heap.size O l) :
    Calls Tryz.prog 20 #[.agg #[.slice A xs.length c, .slice Ap np cp, .slice E es.length e], .agg #[.string s, .slice O l.length o, .int .i64 fuel]] w (RetDo2 w (doJob xs es s l fuel).1 (doJob xs es s l fuel).2) := by
  by_cases h0 : (enterF xs es s l).2 = 0
  · cases hr : (runF (enterF xs es s l).1 fuel).2.2.2
    · exact c_Do_arg A E Ap O c e np cp o xs es s l fuel w he ho hE hx1 hx2 hL hM hN h0 hr
    · exact c_Do_ok A E Ap O c e np cp o xs es s l fuel w he ho hE hL hM hN h0 hr
  · rw [doJob_enter h0]
    exact c_Do_enter A E Ap O c e np cp o xs es s l fuel w he ho hx1 hx2 hL hM hN h0
theorem c_Do (he : es.length ≤ maxLen) (ho : l.length ≤ maxLen) (hE : Env w) (hx1 : xs.length ≤ maxLen) (hx2 : xs.length * 56 ≤ 140737488355328) (hL : Lies encV 7 w w.heap.size A xs) (hM : Lies encE 11 w w.heap.size E es) (hN : Lies encI 1 w w.heap.size O l) :
    Calls Tryz.prog 20 #[.agg #[.slice A xs.length c, .slice Ap np cp, .slice E es.length e], .agg #[.string s, .slice O l.length o, .int .i64 fuel]] w (RetDo w (doJob xs es s l fuel).1 (doJob xs es s l fuel).2) :=
  (c_Do2 A E Ap O c e np cp o xs es s l fuel w he ho hE hx1 hx2 hL hM hN).mono fun _ _ h => h.to
theorem r_Do2 (he : es.length ≤ e) (he' : e ≤ maxLen) (ho : l.length ≤ maxLen) (hwf : ∀ (i : Nat) v, xs[i]? = some v → Val.Wf v) (hwe : ∀ (i : Nat) v, es[i]? = some v → Entry.Wf v) (hE : Env w) (hx1 : xs.length ≤ maxLen) (hx2 : xs.length * 56 ≤ 140737488355328) (hL : Lies encV 7 w w.heap.size A xs) (hM : Lies encE 11 w w.heap.size E es) (hN : Lies encI 1 w w.heap.size O l) :
    Calls Tryz.prog 21 #[.agg #[.slice A xs.length c, .slice Ap np cp, .slice E es.length e], .agg #[.string s, .slice O l.length o, .int .i64 fuel]] w (RetDo2 w (doJob xs es s l fuel).1 (doJob xs es s l fuel).2) := by
  by_cases h0 : (enterF xs es s l).2 = 0
  · cases hr : (runF (enterF xs es s l).1 fuel).2.2.2
    · exact r_Do_arg A E Ap O c e np cp o xs es s l fuel w he he' ho hwf hwe hE hx1 hx2 hL hM hN h0 hr
    · exact r_Do_ok A E Ap O c e np cp o xs es s l fuel w he he' ho hwf hwe hE hL hM hN h0 hr
  · rw [doJob_enter h0]
    exact r_Do_enter A E Ap O c e np cp o xs es s l fuel w he he' ho hwf hwe hx1 hx2 hL hM hN h0
theorem r_Do (he : es.length ≤ e) (he' : e ≤ maxLen) (ho : l.length ≤ maxLen) (hwf : ∀ (i : Nat) v, xs[i]? = some v → Val.Wf v) (hwe : ∀ (i : Nat) v, es[i]? = some v → Entry.Wf v) (hE : Env w) (hx1 : xs.length ≤ maxLen) (hx2 : xs.length * 56 ≤ 140737488355328) (hL : Lies encV 7 w w.heap.size A xs) (hM : Lies encE 11 w w.heap.size E es) (hN : Lies encI 1 w w.heap.size O l) :
    Calls Tryz.prog 21 #[.agg #[.slice A xs.length c, .slice Ap np cp, .slice E es.length e], .agg #[.string s, .slice O l.length o, .int .i64 fuel]] w (RetDo w (doJob xs es s l fuel).1 (doJob xs es s l fuel).2) :=
  (r_Do2 A E Ap O c e np cp o xs es s l fuel w he he' ho hwf hwe hE hx1 hx2 hL hM hN).mono fun _ _ h => h.to
end
theorem r_DoneSame (O O' : Option Addr) (o o' : Nat) (d : Done) (w : World) (hl : d.out.length < 9223372036854775807) (hO : Lies encI 1 w w.heap.size O d.out) (hO' : Lies encI 1 w w.heap.size O' d.out) :
    Calls Tryz.prog 22 #[.agg #[.int .i64 d.e, .int .i64 d.n, .slice O d.out.length o, .int .i64 d.fuel], .agg #[.int .i64 d.e, .int .i64 d.n, .slice O' d.out.length o', .int .i64 d.fuel]] w (Ret (.bool true) w) := by
  have HO := Lib.hid hO
  have HP := Lib.hid hO'
  clear hO hO'
  go_enter Tryz.func22, Tryz.ntmps22
  have hI := Inv.start w
  go_wp2_with (first | ((with_reducible refine at_box ?_); first | (refine listI rfl fun K hK => wpI_box _ _ rfl hI rfl fun gx w' hI' hb => hK _ _ ?_; clear hK K; (try clear hb); replace hI := hI'; clear hI'; replace cF := hI.facts; (try simp only [mm, Act.put, Act.eval] at hI cF)) | (refine listI rfl fun K hK => wpI_box1 _ _ rfl hI rfl rfl fun gx w' hI' hb => hK _ _ ?_; clear hK K; (try clear hb); replace hI := hI'; clear hI'; replace cF := hI.facts; (try simp only [mm, Act.put, Act.eval] at hI cF))) | (go_at_call 19; (with_reducible refine (r_Eq_I O O' o o' d.out d.out _ hl (hI.lies HO.out) (hI.lies HP.out)).mono ?_); intro e w' hr; obtain ⟨rfl, hb⟩ := hr; have hI' := hI.on hb; (try clear hb); replace hI := hI'; clear hI'; replace cF := hI.facts; (try simp only [mm, Act.put, Act.eval] at hI cF)) | fail)
  go_returns
  exact Ret.bool (by simp) hI.below
section
variable {H : Type} {enc : TypeId × Value → H} {w : World} {base : Nat} {sp : Nat → Bool} {held : Bool}
theorem cells_intsJ : Tryz.prog.cellsOf 29 = 1 := by kernel_rfl
theorem open_job {r : Reach} {b0 : Nat} {v : Value} {d : DataW H} {ps : List MemPlace} (hval : Value.okWide Tryz.prog w r b0 51 v) (h : DataW.Trod enc Tryz.prog w base sp held 51 v d ps) :
    ∃ (s : ByteArray) (O : Option Addr) (l : List Int) (o : Nat) (n : Int), v = .agg #[.string s, .slice O l.length o, .int .i64 n] ∧ l.length ≤ o ∧ o ≤ maxLen ∧ Lies encI 1 w w.heap.size O l := by
  obtain ⟨cs, rfl, hsz⟩ := okWide_struct Tryz.underlying51 hval
  obtain ⟨fuel, hf0⟩ := h
  obtain ⟨cl⟩ := cs
  obtain ⟨ys, n, rfl, _, hl, hx, hf⟩ := DataW.trod_struct Tryz.underlying51 hf0
  have hl' : cl.length = 3 := hl.trans (by kernel_rfl)
  have hx' : ys.length = 3 := hx
  match cl, hl' with
  | [c0, c1, c2], _ =>
    obtain ⟨y0, e0⟩ := some_at hx' (i := 0) (by omega)
    obtain ⟨y1, e1⟩ := some_at hx' (i := 1) (by omega)
    obtain ⟨y2, e2⟩ := some_at hx' (i := 2) (by omega)
    have g0 : DataW.trod enc Tryz.prog w base sp held n 9 [c0] = some y0 := field_at hf (i := 0) rfl rfl rfl cells_string e0
    have g1 : DataW.trod enc Tryz.prog w base sp held n 29 [c1] = some y1 := field_at hf (i := 1) rfl rfl rfl cells_intsJ e1
    have g2 : DataW.trod enc Tryz.prog w base sp held n 3 [c2] = some y2 := field_at hf (i := 2) rfl rfl rfl cells_int e2
    obtain ⟨s, z0, _, _⟩ := DataW.trod_string Tryz.underlying9 g0
    obtain ⟨O, o, l, z1, a1, a2, a3, a4⟩ := rows_of_cs (α := Int) (enc := encI) (Wf := i64) (size := 1) Tryz.underlying29 cells_int (by decide) (fun h => by obtain ⟨n, z, _, wf⟩ := DataW.trod_int Tryz.underlying3 h; exact ⟨n, i64_of_wf wf, z⟩) (fun _ => rfl) g1
    obtain ⟨k, z2, _, _⟩ := DataW.trod_int Tryz.underlying3 g2
    simp only [List.cons.injEq, and_true] at z0 z1 z2
    subst z0 z1 z2
    exact ⟨s, O, l, o, k, rfl, a1, a2, a4⟩
end
end Go.Proofs.YthmpnnfejghhfaaGreatDoor
namespace Go.Proofs.YthmpnnfejghhfaaGreatDoor
open Go.ChangeShapes Go.WideShapes Go.ChangeAt Go.RowKit
set_option linter.unusedVariables false
set_option linter.unusedSimpArgs false
set_option maxRecDepth 100000
section
variable {H : Type} {enc : TypeId × Value → H}
theorem liftedLS {C : Checked} {os : Os} {f : FuncId} {fn : Func} {s : ChangeSpec} {F : Stop.Interp} {tb : TypeId} {laid : List (String × DataW Unit)}
    (own : ownKnob C.prog.godebug = none) (started : os.Started) (noInit : C.prog.inits.idxOf? f = none) (hf : C.prog.funcs[f]? = some fn)
    (witness : ∃ (w : World) (tape : Tape) (i : Input), w.os = os ∧ (w.forCall tape i).Shaped C.prog ∧ i.vars = [] ∧ Input.okWide C.prog (w.forCall tape i) .any w.heap.size f i ∧
      (OpenSpec.ofChange s).preRow enc C.prog fn [] false laid (w.forCall tape i).memory i.args ∧ ({} : Assume).holds C.prog (lone (Frame.enter C.prog f i.args .normal) [] (w.forCall tape i)))
    (hl : laidOutB C.prog = true) (hread : fn.params.toList.all (fun t => C.prog.readableRec t && decide (t < C.prog.types.size)) = true) (hvars : s.vars = []) (hrt : fn.resultTypes = #[tb]) (htb : C.prog.underlying tb = some .bool)
    (hfn : ∀ ds : List (DataW H), ds.length = fn.params.size → (s.fn H ds).results = [.lit (.bool true)] ∧ (s.fn H ds).args = ds ∧ (s.fn H ds).vars = [])
    (walk : ∀ (W : World) (base : Nat) (args : Array Value) (ds : List (DataW H)) (ps : List MemPlace),
      (∀ (j : Nat) t v, fn.params[j]? = some t → args[j]? = some v → Value.okWide C.prog W .any base t v) →
      DataW.TrodAll enc C.prog W 0 (fun _ => true) true fn.params.toList args.toList ds ps → (∀ x ∈ ps, x.block < W.heap.size) → (DataW.weightsEach C.prog fn.params.toList ds).all (· ≤ reachBytes) = true →
      laidMetH C.prog laid W → W.ShapedOpen C.prog →
      Calls C.prog f args W fun e W' => e = .returned (.bool true) ∧ Below W.heap.size W W') :
    ReturnsInHanded {} C os f .any ((OpenSpec.ofChange s).preRow enc C.prog fn [] false laid) (((OpenSpec.ofChange s).at F).post enc C.prog fn false true false false) := by
  refine returnsInHanded_of_row own started noInit hf witness ?_
  intro W base args ds gs before hval hW _ _ hsz hL hSh _
  have hW1 : DataW.Whole enc C.prog fn.params.toList s.vars false W args.toList ds gs before := hW
  have hlt := hW1.lt
  have hW0 := hW1
  obtain ⟨p, q, hA, hV, rfl, hfz, hnd⟩ := hW1
  rw [hvars] at hV
  obtain ⟨rfl, rfl⟩ := trodVars_none hV
  have hlen : ds.length = fn.params.size := by
    have : ∀ (ts : List TypeId) (vs : List Value) (ds : List (DataW H)) (ps : List MemPlace), DataW.TrodAll enc C.prog W 0 (fun _ => true) true ts vs ds ps → ds.length = ts.length := by
      intro ts
      induction ts with
      | nil => intro vs ds ps h; cases vs <;> cases ds <;> first | rfl | (exact h.elim)
      | cons t ts ih =>
        intro vs ds ps h
        cases vs <;> cases ds <;> first | (exact h.elim) | (obtain ⟨_, _, _, h2, _⟩ := h; simp [ih _ _ _ h2])
    simpa using this _ _ _ _ hA
  have hsz' : (DataW.weightsEach C.prog fn.params.toList ds).all (· ≤ reachBytes) = true := by
    have hv0 : (OpenSpec.ofChange s).bare.plain.varTypes C.prog = [] := by
      show s.plain.varTypes C.prog = []
      unfold DataSpec.varTypes
      have : s.plain.vars = [] := hvars
      rw [this]; rfl
    rw [hv0, List.append_nil, List.append_nil] at hsz
    exact hsz
  refine (walk W base args ds p hval hA (fun x hx => hlt x (by simp [hx])) hsz' hL hSh).mono fun e W' ⟨he, hb⟩ => ⟨_, he, ?_⟩
  exact post_true hl hread hvars hrt htb (hfn ds hlen) hW0 hb
end
end Go.Proofs.YthmpnnfejghhfaaGreatDoor
namespace Go.Proofs.YthmpnnfejghhfaaGreatDoor
open Go.ChangeShapes Go.WideShapes Go.RowKit Go.Deep
set_option linter.unusedVariables false
set_option linter.unusedSimpArgs false
set_option maxRecDepth 100000
structure JobA where
  s : ByteArray
  O : Option Addr
  l : List Int
  o : Nat
  n : Int
def encJ (x : JobA) : List Value := [.string x.s, .slice x.O x.l.length x.o, .int .i64 x.n]
structure JobA.Ok (w : World) (B : Nat) (x : JobA) : Prop where
  caps : x.l.length ≤ x.o ∧ x.o ≤ maxLen
  args : Lies encI 1 w B x.O x.l
theorem JobA.Ok.below {w w' : World} {B : Nat} {x : JobA} (h : x.Ok w B) (hb : Below B w w') : x.Ok w' B := ⟨h.caps, h.args.below hb⟩
theorem JobA.Ok.more {w : World} {B B' : Nat} {x : JobA} (h : x.Ok w B) (hB : B ≤ B') : x.Ok w B' := ⟨h.caps, h.args.more hB⟩
structure JobsV (w : World) (B : Nat) (L : Option Addr) (xs : List JobA) : Prop where
  lies : Lies encJ 3 w B L xs
  ok : ∀ (k : Nat) x, xs[k]? = some x → x.Ok w B
theorem JobsV.below {w w' : World} {B : Nat} {L : Option Addr} {xs : List JobA} (h : JobsV w B L xs) (hb : Below B w w') : JobsV w' B L xs := ⟨h.lies.below hb, fun k x hx => (h.ok k x hx).below hb⟩
theorem JobsV.more {w : World} {B B' : Nat} {L : Option Addr} {xs : List JobA} (h : JobsV w B L xs) (hB : B ≤ B') : JobsV w B' L xs := ⟨h.lies.more hB, fun k x hx => (h.ok k x hx).more hB⟩
theorem JobsV.grow {w w' : World} {L : Option Addr} {xs : List JobA} (h : JobsV w w.heap.size L xs) (hb : Below w.heap.size w w') : JobsV w' w'.heap.size L xs := (h.below hb).more hb.size
theorem JobsV.at_ {w : World} {B k : Nat} {L : Option Addr} {xs : List JobA} (h : JobsV w B L xs) (hk : k < xs.length) : ∃ b o x, L = some ⟨b, o, none⟩ ∧ b < B ∧ xs[k]? = some x ∧ x.Ok w B ∧
    w.cell? ⟨b, o + k * 3, none⟩ = some (.string x.s) ∧ w.cell? ⟨b, o + k * 3 + 1, none⟩ = some (.slice x.O x.l.length x.o) ∧ w.cell? ⟨b, o + k * 3 + 2, none⟩ = some (.int .i64 x.n) := by
  obtain ⟨b, o, x, hA, hb, hx, hc⟩ := h.lies.at_ hk
  exact ⟨b, o, x, hA, hb, hx, h.ok k x hx, hc 0 (by omega), hc 1 (by omega), hc 2 (by omega)⟩
section
variable {H : Type} {enc : TypeId × Value → H} {w : World} {base : Nat} {sp : Nat → Bool} {held : Bool}
theorem cells_job : Tryz.prog.cellsOf 51 = 3 := by kernel_rfl
theorem trod_job {fuel : Nat} {cs : List Value} {x : DataW H × List MemPlace} (h : DataW.trod enc Tryz.prog w base sp held fuel 51 cs = some x) : ∃ k : JobA, k.Ok w w.heap.size ∧ cs = encJ k := by
  obtain ⟨ys, n, rfl, rfl, hl, hx, hf⟩ := DataW.trod_struct Tryz.underlying51 h
  have hl' : cs.length = 3 := hl.trans cells_job
  have hx' : ys.length = 3 := hx
  match cs, hl' with
  | [c0, c1, c2], _ =>
    obtain ⟨y0, e0⟩ := some_at hx' (i := 0) (by omega)
    obtain ⟨y1, e1⟩ := some_at hx' (i := 1) (by omega)
    obtain ⟨y2, e2⟩ := some_at hx' (i := 2) (by omega)
    have g0 : DataW.trod enc Tryz.prog w base sp held n 9 [c0] = some y0 := field_at hf (i := 0) rfl rfl rfl cells_string e0
    have g1 : DataW.trod enc Tryz.prog w base sp held n 29 [c1] = some y1 := field_at hf (i := 1) rfl rfl rfl cells_intsJ e1
    have g2 : DataW.trod enc Tryz.prog w base sp held n 3 [c2] = some y2 := field_at hf (i := 2) rfl rfl rfl cells_int e2
    obtain ⟨s, z0, _, _⟩ := DataW.trod_string Tryz.underlying9 g0
    obtain ⟨O, o, l, z1, a1, a2, a3, a4⟩ := rows_of_cs (α := Int) (enc := encI) (Wf := i64) (size := 1) Tryz.underlying29 cells_int (by decide) (fun h => by obtain ⟨n, z, _, wf⟩ := DataW.trod_int Tryz.underlying3 h; exact ⟨n, i64_of_wf wf, z⟩) (fun _ => rfl) g1
    obtain ⟨k, z2, _, _⟩ := DataW.trod_int Tryz.underlying3 g2
    simp only [List.cons.injEq, and_true] at z0 z1 z2
    subst z0 z1 z2
    exact ⟨⟨s, O, l, o, k⟩, ⟨⟨a1, a2⟩, a4⟩, rfl⟩
theorem open_jobs {r : Reach} {b0 : Nat} {v : Value} {d : DataW H} {ps : List MemPlace} (hval : Value.okWide Tryz.prog w r b0 59 v) (h : DataW.Trod enc Tryz.prog w base sp held 59 v d ps) :
    ∃ L c, ∃ xs : List JobA, v = .slice L xs.length c ∧ xs.length ≤ c ∧ c ≤ maxLen ∧ JobsV w w.heap.size L xs := by
  obtain ⟨L, c, xs, hv, h1, h2, h3, h4⟩ := open_rows (enc := encJ) (Wf := fun k : JobA => k.Ok w w.heap.size) (size := 3) Tryz.underlying59 cells_job (by decide) trod_job (fun _ => rfl) hval h
  exact ⟨L, c, xs, hv, h1, h2, h4, fun k x hx => h3 k x hx⟩
end
def doA (xs : List Val) (es : List Entry) (x : JobA) : Done × List Val := doJob xs es x.s x.l x.n
def playF (xs : List Val) (es : List Entry) (l : List JobA) : List Done × List Val := l.foldl (fun p x => (p.1 ++ [(doA p.2 es x).1], (doA p.2 es x).2)) ([], xs)
theorem playF_nil (xs : List Val) (es : List Entry) : playF xs es [] = ([], xs) := rfl
theorem playF_snoc (xs : List Val) (es : List Entry) (l : List JobA) (x : JobA) : playF xs es (l ++ [x]) = ((playF xs es l).1 ++ [(doA (playF xs es l).2 es x).1], (doA (playF xs es l).2 es x).2) := by
  unfold playF; rw [List.foldl_append]; rfl
theorem playF_next {xs : List Val} {es : List Entry} {l : List JobA} {k : Nat} {x : JobA} (h : l[k]? = some x) : playF xs es (l.take (k + 1)) = ((playF xs es (l.take k)).1 ++ [(doA (playF xs es (l.take k)).2 es x).1], (doA (playF xs es (l.take k)).2 es x).2) := by
  rw [List.take_add_one, h]; exact playF_snoc xs es _ x
structure MemW (xs : List Val) : Prop where
  len : xs.length ≤ maxLen
  big : xs.length * 56 ≤ 140737488355328
  wf : ∀ (i : Nat) v, xs[i]? = some v → Val.Wf v
theorem doJob_memW {xs : List Val} (h : MemW xs) (es : List Entry) (s : ByteArray) (l : List Int) (fuel : Int) : MemW (doJob xs es s l fuel).2 := by
  unfold doJob
  dsimp only
  split
  · exact h
  · rename_i h0
    split
    · exact h
    · rename_i hr
      have h0' : (enterF xs es s l).2 = 0 := by simpa using h0
      have hm := enterF_mach h0'
      have hok : MachOk (runF (enterF xs es s l).1 fuel).1 := by
        unfold runF at hr ⊢
        split at hr
        · simp at hr
        · rename_i h1
          split at hr
          · simp at hr
          · rename_i h2
            rw [if_neg h1, if_neg h2]
            exact runN_ok hm _
      have h4 := hok.len
      exact ⟨by dsimp only; unfold maxLen; omega, by dsimp only; omega, fun i v hv => hok.wf.mem i v hv⟩
theorem playF_memW {xs : List Val} (h : MemW xs) (es : List Entry) (l : List JobA) : ∀ k, MemW (playF xs es (l.take k)).2
  | 0 => by rw [List.take_zero]; exact h
  | k + 1 => by
    cases hx : l[k]? with
    | none => rw [List.take_add_one, hx, Option.toList_none, List.append_nil]; exact playF_memW h es l k
    | some x => rw [playF_next hx]; exact doJob_memW (playF_memW h es l k) es x.s x.l x.n
theorem playF_len (xs : List Val) (es : List Entry) (l : List JobA) : ∀ k, k ≤ l.length → (playF xs es (l.take k)).1.length = k
  | 0, _ => rfl
  | k + 1, hk => by
    have hx : l[k]? = some (l[k]'(by omega)) := List.getElem?_eq_getElem (by omega)
    rw [playF_next hx, List.length_append, playF_len xs es l k (by omega)]; rfl
structure DoneA where
  O : Option Addr
  o : Nat
  d : Done
def encD (x : DoneA) : List Value := [.int .i64 x.d.e, .int .i64 x.d.n, .slice x.O x.d.out.length x.o, .int .i64 x.d.fuel]
theorem el_D : ElT Tryz.prog encD 60 53 4 48 where
  under := Tryz.underlying60
  info := by
    obtain ⟨i0, hi, hz0, hz1, hz2⟩ := info_parts (show (Tryz.prog.info? 53).map (fun i => (i.zero, i.size, i.bytes)) = some (some (.agg #[.int .i64 0, .int .i64 0, .slice none 0 0, .int .i64 0]), 4, 48) by kernel_rfl)
    exact ⟨i0, _, hi, hz0, hz1, hz2, rfl⟩
  pos := by decide
  len := fun _ => rfl
  one := fun x u hu => by
    simp only [encD, List.mem_cons, List.not_mem_nil, or_false] at hu
    rcases hu with rfl | rfl | rfl | rfl <;> rfl
def LiesN {α : Type} (enc : α → List Value) (size : Nat) (T : Nat → Prop) (w : World) (A : Option Addr) (xs : List α) : Prop :=
  xs ≠ [] → ∃ b o, A = some ⟨b, o, none⟩ ∧ b < w.heap.size ∧ ¬ T b ∧ ∀ i x, xs[i]? = some x → ∀ j, j < size → w.cell? ⟨b, o + i * size + j, none⟩ = (enc x)[j]?
section
variable {α : Type} {enc : α → List Value} {size : Nat} {T T' : Nat → Prop} {w w' w0 : World} {A : Option Addr} {xs : List α} {rs : List Res}
theorem LiesN.lies (h : LiesN enc size T w A xs) : Lies enc size w w.heap.size A xs := fun hn => by
  obtain ⟨b, o, h1, h2, -, h3⟩ := h hn
  exact ⟨b, o, h1, h2, h3⟩
theorem LiesN.step (h : LiesN enc size T w A xs) (hb : ButT T w w') (hT : ∀ k, T' k → T k ∨ w.heap.size ≤ k) : LiesN enc size T' w' A xs := fun hn => by
  obtain ⟨b, o, h1, h2, h4, h3⟩ := h hn
  refine ⟨b, o, h1, Nat.lt_of_lt_of_le h2 hb.size, fun hk => ?_, fun i x hx j hj => ?_⟩
  · rcases hT b hk with h5 | h5
    · exact h4 h5
    · omega
  · rw [← h3 i x hx j hj]
    exact World.cell?_of_block (hb.block b h2 h4)
theorem InvT.liesN (h : InvT T w0 rs w) {i : Nat} {e : TypeId} {v : Value} (hi : rs[i]? = some (.row e size v xs.length (xs.flatMap enc))) (hl : ∀ x, (enc x).length = size) {n c : Nat} (hv : v = .slice A n c) {ts : List Res} (ht : ∀ r ∈ ts, ∃ j, j ≠ i ∧ rs[j]? = some r) : LiesN enc size (Blks ts) w A xs := fun hn => by
  obtain ⟨b, o, h1, h2, h3⟩ := (h.own0 hi).liesB hl hv hn
  subst h1
  refine ⟨b, o, rfl, h2, ?_, h3⟩
  rintro ⟨r, hr, hk⟩
  obtain ⟨j, hj, hjr⟩ := ht r hr
  refine h.apart j i r _ hj hjr hi b hk ?_
  subst hv
  rcases (h.ok i _ hi).2 with ⟨hv, _⟩ | ⟨g, cap, cur, hv, _⟩
  · cases hv
  · cases hv; rfl
theorem InvT.liesT (h : InvT T w0 rs w) {B : Nat} (hL : Lies enc size w0 B A xs) (hB : B ≤ w0.heap.size) (hT : ∀ k, k < B → ¬ T k) : Lies enc size w w.heap.size A xs := fun hn => by
  obtain ⟨b, o, h1, h2, h3⟩ := hL hn
  refine ⟨b, o, h1, Nat.lt_of_lt_of_le h2 (Nat.le_trans hB h.but.size), fun i x hx j hj => ?_⟩
  rw [← h3 i x hx j hj]
  exact World.cell?_of_block (h.but.block b (Nat.lt_of_lt_of_le h2 hB) (hT b h2))
end
def DonesN (T : Nat → Prop) (w : World) (ds : List DoneA) : Prop := ∀ x ∈ ds, x.d.out.length ≤ x.o ∧ x.o ≤ maxLen ∧ LiesN encI 1 T w x.O x.d.out
theorem DonesN.step {T T' : Nat → Prop} {w w' : World} {ds : List DoneA} (h : DonesN T w ds) (hb : ButT T w w') (hT : ∀ k, T' k → T k ∨ w.heap.size ≤ k) : DonesN T' w' ds := fun x hx => ⟨(h x hx).1, (h x hx).2.1, (h x hx).2.2.step hb hT⟩
theorem DonesN.snoc {T : Nat → Prop} {w : World} {ds : List DoneA} {x : DoneA} (h : DonesN T w ds) (h1 : x.d.out.length ≤ x.o) (h2 : x.o ≤ maxLen) (h3 : LiesN encI 1 T w x.O x.d.out) : DonesN T w (ds ++ [x]) := fun y hy => by
  rcases List.mem_append.1 hy with hy | hy
  · exact h y hy
  · rw [List.mem_singleton.1 hy]; exact ⟨h1, h2, h3⟩
theorem InvT.lowT {T : Nat → Prop} {w0 w : World} {rs : List Res} (h : InvT T w0 rs w) : ∀ k, Blks rs k → T k ∨ w0.heap.size ≤ k := fun k ⟨r, hr, hk⟩ => by
  obtain ⟨i, hi, he⟩ := List.getElem_of_mem hr
  exact h.low i r (by rw [List.getElem?_eq_getElem hi, he]) k hk
end Go.Proofs.YthmpnnfejghhfaaGreatDoor
namespace Go.Proofs.YthmpnnfejghhfaaGreatDoor
open Go.RowKit
set_option linter.unusedVariables false
set_option linter.unusedSimpArgs false
set_option maxRecDepth 100000
theorem Blks.nil_ (k : Nat) : ¬ Blks [] k := by rintro ⟨r, hr, _⟩; cases hr
theorem InvT.bl {T : Nat → Prop} {w wr w' : World} {rs : List Res} (h : InvT T wr rs w') (hb : Below w.heap.size w wr) (hT : ∀ k, T k → w.heap.size ≤ k) : Below w.heap.size w w' :=
  ⟨h.but.os.trans hb.os, h.but.tape.trans hb.tape, h.but.output.trans hb.output, Nat.le_trans hb.size h.but.size, fun k hk => (h.but.block k (Nat.lt_of_lt_of_le hk hb.size) fun ht => by have := hT k ht; omega).trans (hb.block k hk)⟩
theorem InvT.back {w wr w' : World} {rs rs' : List Res} (h : Inv w rs wr) (hc : InvT (Blks rs) wr rs' w') : Inv w rs' w' := by
  have := InvT.frame (rc := rs) (rc' := rs') (ts := []) (by rw [List.append_nil]; exact h) hc
  rwa [List.append_nil] at this
theorem InvT.enterAll {T : Nat → Prop} {w wr : World} {rs : List Res} (h : InvT T w rs wr) : InvT (Blks rs) wr rs wr := InvT.enter (rc := rs) (ts := []) (by rw [List.append_nil]; exact h)
structure DonesV (w : World) (O : Option Addr) (ds : List DoneA) : Prop where
  lies : Lies encD 4 w w.heap.size O ds
  ok : ∀ x ∈ ds, x.d.out.length ≤ x.o ∧ x.o ≤ maxLen ∧ Lies encI 1 w w.heap.size x.O x.d.out
theorem DonesV.grow {w w' : World} {O : Option Addr} {ds : List DoneA} (h : DonesV w O ds) (hb : Below w.heap.size w w') : DonesV w' O ds := ⟨h.lies.grow hb, fun x hx => ⟨(h.ok x hx).1, (h.ok x hx).2.1, (h.ok x hx).2.2.grow hb⟩⟩
def RetPlay (f : Value → Value → Value) (w : World) (r : List Done × List Val) : Ending → World → Prop := fun ed w' => ∃ (O : Option Addr) (o : Nat) (A : Option Addr) (c : Nat) (ds : List DoneA), ed = .returned (f (.slice O ds.length o) (.slice A r.2.length c)) ∧ ds.map (·.d) = r.1 ∧
  DonesV w' O ds ∧ Lies encV 7 w' w'.heap.size A r.2 ∧ Below w.heap.size w w'
section
variable (A E Ap L : Option Addr) (c e np cp lc : Nat) (xs : List Val) (es : List Entry) (l : List JobA) (w : World)
theorem c_Play_large (n n' ne : Nat) (hn : 60 < n) :
    Calls Tryz.prog 24 #[.agg #[.slice A n' c, .slice Ap np cp, .slice E ne e], .slice L n lc] w (Ret (.tuple #[.slice none 0 0, .slice none 0 0, .int .i64 2]) w) := by
  have hI := Inv.start w
  go_enter Tryz.func24, Tryz.ntmps24
  go_wp2_with (first | ((with_reducible refine at_box ?_); first | (refine listI rfl fun K hK => wpI_box _ _ rfl hI rfl fun gx w' hI' hb => hK _ _ ?_; clear hK K; (try clear hb); replace hI := hI'; clear hI'; replace cF := hI.facts; (try simp only [mm, Act.put, Act.eval] at hI cF)) | (refine listI rfl fun K hK => wpI_box1 _ _ rfl hI rfl rfl fun gx w' hI' hb => hK _ _ ?_; clear hK K; (try clear hb); replace hI := hI'; clear hI'; replace cF := hI.facts; (try simp only [mm, Act.put, Act.eval] at hI cF))) | fail)
  go_returns
  exact ⟨rfl, hI.below⟩
set_option maxHeartbeats 4000000 in
theorem c_Play (he : es.length ≤ maxLen) (hl : l.length ≤ 60) (hE : Env w) (hW : MemW xs) (hL : Lies encV 7 w w.heap.size A xs) (hM : Lies encE 11 w w.heap.size E es) (hJ : JobsV w w.heap.size L l) :
    Calls Tryz.prog 24 #[.agg #[.slice A xs.length c, .slice Ap np cp, .slice E es.length e], .slice L l.length lc] w (RetPlay (fun a b => .tuple #[a, b, .int .i64 0]) w (playF xs es l)) := by
  have HL := Lib.hid hL
  have HM := Lib.hid hM
  have HJ := Lib.hid hJ
  have HE := Lib.hid hE
  have HW := Lib.hid hW
  clear hL hM hJ hE hW
  have hI := Inv.start w
  go_enter Tryz.func24, Tryz.ntmps24
  go_wp2_with (first
    | ((first | ((with_reducible refine at_box ?_); first | (refine listI rfl fun K hK => wpI_box _ _ rfl hI rfl fun gx w' hI' hb => hK _ _ ?_; clear hK K; (try clear hb); replace hI := hI'; clear hI'; replace cF := hI.facts; (try simp only [mm, Act.put, Act.eval] at hI cF)) | (refine listI rfl fun K hK => wpI_box1 _ _ rfl hI rfl rfl fun gx w' hI' hb => hK _ _ ?_; clear hK K; (try clear hb); replace hI := hI'; clear hI'; replace cF := hI.facts; (try simp only [mm, Act.put, Act.eval] at hI cF)))); obtain ⟨gi, rfl⟩ : ∃ y, y = gx := ⟨_, rfl⟩)
    | (go_at_call 41; (with_reducible refine (c_Clone_V A c xs _ HW.out.len HW.out.big (hI.lies HL.out)).mono ?_); rintro e w' ⟨A2, A2k, rfl, hO, -, hb⟩; have hI' := hI.ownrow hb hO; clear hO; (try clear hb); replace hI := hI'; clear hI'; replace cF := hI.facts; (try simp only [mm, Act.put, Act.eval] at hI cF))
    | ((with_reducible refine at_store ?_); first | (refine listI rfl fun K hK => wpI_store1 _ _ _ rfl hI rfl 0 rfl rfl (hI.one (i := 1) rfl) (by simp) (by kernel_rfl) fun w' hI' => hK _ _ ?_; clear hK K; (try clear hb); replace hI := hI'; clear hI'; replace cF := hI.facts; (try simp only [mm, Act.put, Act.eval] at hI cF)))
    | fail)
  replace hI := hI.nilrow 53 4
  simp only [List.cons_append, List.nil_append] at hI
  go_loopw [7, 20] (fun v7 v wr => ∃ (k : Nat) (vm : Value) (ds : List DoneA), v = .int .i64 k ∧ k ≤ l.length ∧ ds.map (·.d) = (playF xs es (l.take k)).1 ∧
      Inv w [.box gi 49 #[vm, .slice Ap np cp, .slice E es.length e], .row 25 7 vm (playF xs es (l.take k)).2.length ((playF xs es (l.take k)).2.flatMap encV), .row 53 4 v7 ds.length (ds.flatMap encD)] wr ∧
      DonesN (Blks [.box gi 49 #[vm, .slice Ap np cp, .slice E es.length e], .row 25 7 vm (playF xs es (l.take k)).2.length ((playF xs es (l.take k)).2.flatMap encV), .row 53 4 v7 ds.length (ds.flatMap encD)]) wr ds) (fun _ v _ => (l.length - intOf v).toNat)
  case atStart => exact ⟨0, _, [], rfl, by omega, rfl, hI, fun x hx => by cases hx⟩
  case round =>
    clear hI
    (try clear cF)
    (try replace cF := cF.2)
    obtain ⟨k, vm, ds, rfl, hk, hds, hI0, hN⟩ := hrel
    obtain ⟨p, hp⟩ : ∃ p, playF xs es (l.take k) = p := ⟨_, rfl⟩
    have HD := Lib.hid hds
    have hmw := playF_memW HW.out es l k
    rw [hp] at hI0 hN hmw
    have HP := Lib.hid hp
    have HMW := Lib.hid hmw
    clear hds hp hmw
    rcases Nat.lt_or_ge k l.length with hlt | hge
    · obtain ⟨b, o, x, rfl, hb, hx, hok, q0, q1, q2⟩ := (HJ.out.below hI0.below).at_ hlt
      have hb' : b < wr.heap.size := Nat.lt_of_lt_of_le hb hI0.size
      have HOK := Lib.hid (HJ.out.ok k x hx)
      have HX := Lib.hid hx
      have HN := Lib.hid hN
      have HBL := Lib.hid hI0.below
      have HT := Lib.hid (show ∀ k, Blks _ k → w.heap.size ≤ k from fun k hk => (hI0.lowT k hk).resolve_left id)
      have hI := hI0.enterAll
      have HI0 := Lib.hid hI0
      have hdl : ds.length ≤ 60 := by
        have := congrArg List.length HD.out
        rw [List.length_map, playF_len _ _ _ _ hk] at this; omega
      clear hx hok hN hI0
      obtain ⟨s, O, jl, jo, n⟩ := x
      dsimp only at q0 q1 q2
      obtain ⟨d, ys, hq⟩ : ∃ d ys, doJob p.2 es s jl n = (d, ys) := ⟨_, _, rfl⟩
      have HQ := Lib.hid hq
      have hcall := fun A c W h1 h2 h3 h4 => c_Do2 A E Ap O c e np cp jo p.2 es s jl n W he (Nat.le_trans HOK.out.caps.1 HOK.out.caps.2) h1 HMW.out.len HMW.out.big h2 h3 h4
      rw [hq] at hcall
      have HC := Lib.hid hcall
      clear hq hcall
      obtain ⟨Am, cm, hvm⟩ := (hI.own0 (enc := encV) (xs := p.2) (size := 7) (i := 1) rfl).form
      subst hvm
      have cF := hI.facts; (try simp only [mm] at cF)
      go_wp2_with (first
        | ((with_reducible refine at_alloc ?_); first | (refine lv 51 hI Tryz.zeroValue51 fun gx w' hI' hb => ?_; (try clear hb); replace hI := hI'; clear hI'; replace cF := hI.facts; (try simp only [mm, Act.put, Act.eval] at hI cF)))
        | ((with_reducible refine at_alloc ?_); first | (refine listI rfl fun K hK => wpI_alloc 53 rfl hI Tryz.zeroValue53 (cs := #[.int .i64 0, .int .i64 0, .slice none 0 0, .int .i64 0]) (by first | rfl | kernel_rfl) fun gx w' hI' hb => hK _ _ ?_; clear hK K; (try clear hb); replace hI := hI'; clear hI'; replace cF := hI.facts; (try simp only [mm, Act.put, Act.eval] at hI cF)))
        | (go_at_call 20; refine (HC.out _ _ _ (HE.out.below (hI.bl HBL.out HT.out)) ((InvT.own0 (enc := encV) (xs := p.2) (size := 7) hI (i := 1) rfl).liesB (fun _ => rfl) rfl) ((HM.out.below (hI.bl HBL.out HT.out)).more (hI.bl HBL.out HT.out).size) ((HOK.out.args.below (hI.bl HBL.out HT.out)).more (hI.bl HBL.out HT.out).size)).mono ?_; rintro e w' ⟨O1, o1, A1, k1, rfl, hI2⟩; have hb := hI2.below; have hI' := hI.join hI2; clear hI2; (try clear hb); replace hI := hI'; clear hI'; replace cF := hI.facts; (try simp only [mm, Act.put, Act.eval] at hI cF))
        | ((with_reducible refine at_store ?_); first | (refine listI rfl fun K hK => wpI_storeW _ _ _ rfl hI rfl 4 rfl rfl rfl (by kernel_rfl) (by simp [Value.oneCell']) fun w' hI' => hK _ _ ?_; clear hK K; (try clear hb); replace hI := hI'; clear hI'; replace cF := hI.facts; (try simp only [mm, Act.put, Act.eval] at hI cF)))
        | ((with_reducible refine at_store ?_); first | (refine listI rfl fun K hK => wpI_store1 _ _ _ rfl hI rfl 0 rfl rfl (hI.one (i := 6) rfl) (by simp) (by kernel_rfl) fun w' hI' => hK _ _ ?_; clear hK K; (try clear hb); replace hI := hI'; clear hI'; replace cF := hI.facts; (try simp only [mm, Act.put, Act.eval] at hI cF)))
        | (refine listI rfl fun K hK => wpI_slice1 _ 53 _ rfl hI Tryz.underlying60 rfl (size := 4) (by kernel_rfl) rfl fun gx w' hI' hb => hK _ _ ?_; clear hK K; (try clear hb); replace hI := hI'; clear hI'; replace cF := hI.facts; (try simp only [mm, Act.put, Act.eval] at hI cF))
        | (refine listI rfl fun K hK => wpI_app _ _ rfl el_D hI 2 rfl rfl (ys := [⟨O1, o1, d⟩]) rfl (hI.lies1 (i := 7) rfl _ (fun j hj => by rw [List.getElem?_toArray]; rfl)) rfl (by unfold maxLen; simp only [List.length_cons, List.length_nil]; omega) (by simp only [List.length_cons, List.length_nil]; omega) fun v' w' hI' => hK _ _ ?_; clear hK K; (try clear hb); replace hI := hI'; clear hI'; replace cF := hI.facts; (try simp only [mm, Act.put, Act.eval] at hI cF))
        | fail)
      have hF := hI.pick [0, 6, 2] [.box gi 49 #[.slice A1 ys.length k1, .slice Ap np cp, .slice E es.length e], .row 25 7 (.slice A1 ys.length k1) ys.length (ys.flatMap encV), .row 53 4 v' (ds ++ [(⟨O1, o1, d⟩ : DoneA)]).length ((ds ++ [(⟨O1, o1, d⟩ : DoneA)]).flatMap encD)] (by decide) rfl
      have hrc := hI.rowCap (i := 5) rfl
      have hLN := InvT.liesN (enc := encI) (xs := d.out) (size := 1) hI (i := 5) rfl (fun _ => rfl) rfl (ts := [.box gi 49 #[.slice A1 ys.length k1, .slice Ap np cp, .slice E es.length e], .row 25 7 (.slice A1 ys.length k1) ys.length (ys.flatMap encV), .row 53 4 v' (ds ++ [(⟨O1, o1, d⟩ : DoneA)]).length ((ds ++ [(⟨O1, o1, d⟩ : DoneA)]).flatMap encD)]) (fun r hr => by
        simp only [List.mem_cons, List.not_mem_nil, or_false] at hr
        rcases hr with rfl | rfl | rfl
        · exact ⟨0, by decide, rfl⟩
        · exact ⟨6, by decide, rfl⟩
        · exact ⟨2, by decide, rfl⟩)
      have hN2 := (HN.out.step hF.but hF.lowT).snoc (x := ⟨O1, o1, d⟩) hrc.1 hrc.2 hLN
      have hPN : playF xs es (l.take (k + 1)) = (p.1 ++ [d], ys) := by
        rw [playF_next HX.out, HP.out]
        show (p.1 ++ [(doJob p.2 es s jl n).1], (doJob p.2 es s jl n).2) = _
        rw [HQ.out]
      have hI2 := HI0.out.back hF
      have HI2 := Lib.hid hI2
      have HN2 := Lib.hid hN2
      have HPN := Lib.hid hPN
      clear hF hrc hLN hN2 hPN hI2
      go_roundw
      case rel => exact ⟨k + 1, _, ds ++ [⟨O1, o1, d⟩], by go_num, by omega, by rw [HPN.out, List.map_append, HD.out, HP.out]; rfl, by rw [HPN.out]; exact HI2.out, by rw [HPN.out]; exact HN2.out⟩
      case measure => simp [intOf]; omega
    · have HPE := Lib.hid (show playF xs es l = p by rw [← HP.out, List.take_of_length_le hge])
      have hdk : decide (k < l.length) = false := by simp; omega
      have HI0 := Lib.hid hI0
      have HN := Lib.hid hN
      have hI := hI0.enterAll
      clear hI0 hN
      obtain ⟨Am, cm, hvm⟩ := (hI.own0 (enc := encV) (xs := p.2) (size := 7) (i := 1) rfl).form
      subst hvm
      obtain ⟨O1, o1, hvo⟩ := (hI.own0 (enc := encD) (xs := ds) (size := 4) (i := 2) rfl).form
      subst hvo
      have cF := hI.facts; (try simp only [mm] at cF)
      go_wp2_with fail
      (refine wp_region_K [0] (by kernel_rfl) hI fun w' hI' hHeld => ?_; (try clear hb); replace hI := hI'; clear hI'; replace cF := hI.facts; (try simp only [mm, Act.put, Act.eval] at hI cF))
      (refine tk 0 ?_; (try simp only [np, Act.put])); (refine tk 1 ?_; (try simp only [np, Act.put])); (refine tk 2 ?_; (try simp only [np, Act.put])); (refine tk 3 ?_; (try simp only [np, Act.put])); (refine tk 4 ?_; (try simp only [np, Act.put])); (refine tk 5 ?_; (try simp only [np, Act.put]))
      refine wpAnyH_done (by kernel_rfl) ?_ _
      clear hHeld
      go_wp2_with fail
      go_returns
      have hN2 := HN.out.step hI.but fun k hk => .inl hk
      rw [HPE.out]
      exact ⟨O1, o1, Am, cm, ds, rfl, by rw [HD.out, HP.out], ⟨(InvT.own0 (enc := encD) (xs := ds) (size := 4) hI (i := 2) rfl).liesB (fun _ => rfl) rfl, fun x hx => ⟨(hN2 x hx).1, (hN2 x hx).2.1, (hN2 x hx).2.2.lies⟩⟩, (InvT.own0 (enc := encV) (xs := p.2) (size := 7) hI (i := 1) rfl).liesB (fun _ => rfl) rfl, (HI0.out.back hI).below⟩
end
end Go.Proofs.YthmpnnfejghhfaaGreatDoor
namespace Go.Proofs.YthmpnnfejghhfaaGreatDoor
open Go.RowKit
set_option linter.unusedVariables false
set_option linter.unusedSimpArgs false
set_option maxRecDepth 100000
theorem LiesN.ofLies {α : Type} {enc : α → List Value} {size : Nat} {w : World} {A : Option Addr} {xs : List α} (h : Lies enc size w w.heap.size A xs) : LiesN enc size (fun _ => False) w A xs := fun hn => by
  obtain ⟨b, o, h1, h2, h3⟩ := h hn
  exact ⟨b, o, h1, h2, id, h3⟩
section
variable (A E Ap L : Option Addr) (c e np cp lc : Nat) (xs : List Val) (es : List Entry) (l : List JobA) (w : World)
set_option maxHeartbeats 4000000 in
theorem r_Play (he : es.length ≤ e) (he' : e ≤ maxLen) (hl : l.length ≤ 60) (hwe : ∀ (i : Nat) v, es[i]? = some v → Entry.Wf v) (hE : Env w) (hW : MemW xs) (hL : Lies encV 7 w w.heap.size A xs) (hM : Lies encE 11 w w.heap.size E es) (hJ : JobsV w w.heap.size L l) :
    Calls Tryz.prog 25 #[.agg #[.slice A xs.length c, .slice Ap np cp, .slice E es.length e], .slice L l.length lc] w (RetPlay (fun a b => .tuple #[a, b]) w (playF xs es l)) := by
  have HL := Lib.hid hL
  have HM := Lib.hid hM
  have HJ := Lib.hid hJ
  have HE := Lib.hid hE
  have HW := Lib.hid hW
  have HWE := Lib.hid hwe
  clear hL hM hJ hE hW hwe
  have hI := Inv.start w
  go_enter Tryz.func25, Tryz.ntmps25
  go_wp2_with (first
    | ((first | ((with_reducible refine at_box ?_); first | (refine listI rfl fun K hK => wpI_box _ _ rfl hI rfl fun gx w' hI' hb => hK _ _ ?_; clear hK K; (try clear hb); replace hI := hI'; clear hI'; replace cF := hI.facts; (try simp only [mm, Act.put, Act.eval] at hI cF)) | (refine listI rfl fun K hK => wpI_box1 _ _ rfl hI rfl rfl fun gx w' hI' hb => hK _ _ ?_; clear hK K; (try clear hb); replace hI := hI'; clear hI'; replace cF := hI.facts; (try simp only [mm, Act.put, Act.eval] at hI cF)))); obtain ⟨gi, rfl⟩ : ∃ y, y = gx := ⟨_, rfl⟩)
    | fail)
  replace hI := hI.nilrow 53 4
  simp only [List.cons_append, List.nil_append] at hI
  have hgi := (hI.low 0 _ rfl gi rfl).resolve_left id
  have hL0 := (LiesN.ofLies HL.out).step hI.but hI.lowT
  go_loopw [6, 13] (fun v7 v wr => ∃ (k : Nat) (Am : Option Addr) (cm : Nat) (ds : List DoneA), v = .int .i64 k ∧ k ≤ l.length ∧ ds.map (·.d) = (playF xs es (l.take k)).1 ∧
      Inv w [.box gi 49 #[.slice Am (playF xs es (l.take k)).2.length cm, .slice Ap np cp, .slice E es.length e], .row 53 4 v7 ds.length (ds.flatMap encD)] wr ∧
      LiesN encV 7 (Blks [.box gi 49 #[.slice Am (playF xs es (l.take k)).2.length cm, .slice Ap np cp, .slice E es.length e], .row 53 4 v7 ds.length (ds.flatMap encD)]) wr Am (playF xs es (l.take k)).2 ∧
      DonesN (Blks [.box gi 49 #[.slice Am (playF xs es (l.take k)).2.length cm, .slice Ap np cp, .slice E es.length e], .row 53 4 v7 ds.length (ds.flatMap encD)]) wr ds) (fun _ v _ => (l.length - intOf v).toNat)
  case atStart => exact ⟨0, A, c, [], rfl, by omega, rfl, hI, hL0, fun x hx => by cases hx⟩
  case round =>
    clear hI hL0
    (try clear cF)
    (try replace cF := cF.2)
    obtain ⟨k, Am, cm, ds, rfl, hk, hds, hI0, hLm, hN⟩ := hrel
    obtain ⟨p, hp⟩ : ∃ p, playF xs es (l.take k) = p := ⟨_, rfl⟩
    have HD := Lib.hid hds
    have hmw := playF_memW HW.out es l k
    rw [hp] at hI0 hN hmw hLm
    have HP := Lib.hid hp
    have HMW := Lib.hid hmw
    clear hds hp hmw
    have HN := Lib.hid hN
    have HLM := Lib.hid hLm
    rcases Nat.lt_or_ge k l.length with hlt | hge
    · obtain ⟨b, o, x, rfl, hb, hx, hok, q0, q1, q2⟩ := (HJ.out.below hI0.below).at_ hlt
      have hb' : b < wr.heap.size := Nat.lt_of_lt_of_le hb hI0.size
      have HOK := Lib.hid (HJ.out.ok k x hx)
      have HX := Lib.hid hx
      have HBL := Lib.hid hI0.below
      have HT := Lib.hid (show ∀ k, Blks _ k → w.heap.size ≤ k from fun k hk => (hI0.lowT k hk).resolve_left id)
      have hI := hI0.enterAll
      have HI0 := Lib.hid hI0
      have hdl : ds.length ≤ 60 := by
        have := congrArg List.length HD.out
        rw [List.length_map, playF_len _ _ _ _ hk] at this; omega
      clear hx hok hN hI0 hLm
      obtain ⟨s, O, jl, jo, n⟩ := x
      dsimp only at q0 q1 q2
      obtain ⟨d, ys, hq⟩ : ∃ d ys, doJob p.2 es s jl n = (d, ys) := ⟨_, _, rfl⟩
      have HQ := Lib.hid hq
      have hcall := fun A c W h1 h2 h3 h4 => r_Do2 A E Ap O c e np cp jo p.2 es s jl n W he he' (Nat.le_trans HOK.out.caps.1 HOK.out.caps.2) HMW.out.wf HWE.out h1 HMW.out.len HMW.out.big h2 h3 h4
      rw [hq] at hcall
      have HC := Lib.hid hcall
      clear hq hcall
      have cF := hI.facts; (try simp only [mm] at cF)
      go_wp2_with (first
        | ((with_reducible refine at_alloc ?_); first | (refine lv 51 hI Tryz.zeroValue51 fun gx w' hI' hb => ?_; (try clear hb); replace hI := hI'; clear hI'; replace cF := hI.facts; (try simp only [mm, Act.put, Act.eval] at hI cF)))
        | (go_at_call 21; refine (HC.out _ _ _ (HE.out.below (hI.bl HBL.out HT.out)) (HLM.out.step hI.but fun k hk => .inl hk).lies ((HM.out.below (hI.bl HBL.out HT.out)).more (hI.bl HBL.out HT.out).size) ((HOK.out.args.below (hI.bl HBL.out HT.out)).more (hI.bl HBL.out HT.out).size)).mono ?_; rintro e w' ⟨O1, o1, A1, k1, rfl, hI2⟩; have hb := hI2.below; have hI' := hI.join hI2; clear hI2; (try clear hb); replace hI := hI'; clear hI'; replace cF := hI.facts; (try simp only [mm, Act.put, Act.eval] at hI cF))
        | ((with_reducible refine at_alloc ?_); first | (refine lv 53 hI Tryz.zeroValue53 fun gx w' hI' hb => ?_; (try clear hb); replace hI := hI'; clear hI'; replace cF := hI.facts; (try simp only [mm, Act.put, Act.eval] at hI cF)))
        | ((with_reducible refine at_store ?_); first | (refine listI rfl fun K hK => wpI_store1 _ _ _ rfl hI rfl 0 rfl rfl (hI.one (i := 4) rfl) (by simp) (by kernel_rfl) fun w' hI' => hK _ _ ?_; clear hK K; (try clear hb); replace hI := hI'; clear hI'; replace cF := hI.facts; (try simp only [mm, Act.put, Act.eval] at hI cF)))
        | (refine listI rfl fun K hK => wpI_slice1 _ 53 _ rfl hI Tryz.underlying60 rfl (size := 4) (by kernel_rfl) rfl fun gx w' hI' hb => hK _ _ ?_; clear hK K; (try clear hb); replace hI := hI'; clear hI'; replace cF := hI.facts; (try simp only [mm, Act.put, Act.eval] at hI cF))
        | (refine listI rfl fun K hK => wpI_app _ _ rfl el_D hI 1 rfl rfl (ys := [⟨O1, o1, d⟩]) rfl (hI.lies1 (i := 6) rfl _ (fun j hj => by rw [List.getElem?_toArray]; rfl)) rfl (by unfold maxLen; simp only [List.length_cons, List.length_nil]; omega) (by simp only [List.length_cons, List.length_nil]; omega) fun v' w' hI' => hK _ _ ?_; clear hK K; (try clear hb); replace hI := hI'; clear hI'; replace cF := hI.facts; (try simp only [mm, Act.put, Act.eval] at hI cF))
        | fail)
      have hF := hI.pick [0, 1] [.box gi 49 #[.slice A1 ys.length k1, .slice Ap np cp, .slice E es.length e], .row 53 4 v' (ds ++ [(⟨O1, o1, d⟩ : DoneA)]).length ((ds ++ [(⟨O1, o1, d⟩ : DoneA)]).flatMap encD)] (by decide) rfl
      have hrc := hI.rowCap (i := 3) rfl
      have hLN := InvT.liesN (enc := encI) (xs := d.out) (size := 1) hI (i := 3) rfl (fun _ => rfl) rfl (ts := [.box gi 49 #[.slice A1 ys.length k1, .slice Ap np cp, .slice E es.length e], .row 53 4 v' (ds ++ [(⟨O1, o1, d⟩ : DoneA)]).length ((ds ++ [(⟨O1, o1, d⟩ : DoneA)]).flatMap encD)]) (fun r hr => by
        simp only [List.mem_cons, List.not_mem_nil, or_false] at hr
        rcases hr with rfl | rfl
        · exact ⟨0, by decide, rfl⟩
        · exact ⟨1, by decide, rfl⟩)
      have hLV := InvT.liesN (enc := encV) (xs := ys) (size := 7) hI (i := 4) rfl (fun _ => rfl) rfl (ts := [.box gi 49 #[.slice A1 ys.length k1, .slice Ap np cp, .slice E es.length e], .row 53 4 v' (ds ++ [(⟨O1, o1, d⟩ : DoneA)]).length ((ds ++ [(⟨O1, o1, d⟩ : DoneA)]).flatMap encD)]) (fun r hr => by
        simp only [List.mem_cons, List.not_mem_nil, or_false] at hr
        rcases hr with rfl | rfl
        · exact ⟨0, by decide, rfl⟩
        · exact ⟨1, by decide, rfl⟩)
      have hN2 := (HN.out.step hF.but hF.lowT).snoc (x := ⟨O1, o1, d⟩) hrc.1 hrc.2 hLN
      have hPN : playF xs es (l.take (k + 1)) = (p.1 ++ [d], ys) := by
        rw [playF_next HX.out, HP.out]
        show (p.1 ++ [(doJob p.2 es s jl n).1], (doJob p.2 es s jl n).2) = _
        rw [HQ.out]
      have hI2 := HI0.out.back hF
      have HI2 := Lib.hid hI2
      have HN2 := Lib.hid hN2
      have HLV := Lib.hid hLV
      have HPN := Lib.hid hPN
      clear hF hrc hLN hN2 hPN hI2 hLV
      go_roundw
      case rel => exact ⟨k + 1, A1, k1, ds ++ [⟨O1, o1, d⟩], by go_num, by omega, by rw [HPN.out, List.map_append, HD.out, HP.out]; rfl, by rw [HPN.out]; exact HI2.out, by rw [HPN.out]; exact HLV.out, by rw [HPN.out]; exact HN2.out⟩
      case measure => simp [intOf]; omega
    · have HPE := Lib.hid (show playF xs es l = p by rw [← HP.out, List.take_of_length_le hge])
      have hdk : decide (k < l.length) = false := by simp; omega
      have HI0 := Lib.hid hI0
      have hI := hI0.enterAll
      clear hI0 hN hLm
      obtain ⟨O1, o1, hvo⟩ := (hI.own0 (enc := encD) (xs := ds) (size := 4) (i := 1) rfl).form
      subst hvo
      have cF := hI.facts; (try simp only [mm] at cF)
      go_wp2_with (first | (go_at_call 43; (with_reducible refine (r_Copy_V Am cm p.2 _ HMW.out.len HMW.out.big (HLM.out.step hI.but fun k hk => .inl hk).lies).mono ?_); rintro e w' ⟨A2, A2k, rfl, hO, -, hb⟩; have hI' := hI.ownrow hb hO; clear hO; (try clear hb); replace hI := hI'; clear hI'; replace cF := hI.facts; (try simp only [mm, Act.put, Act.eval] at hI cF)) | fail)
      go_returns
      have hN2 := HN.out.step hI.but fun k hk => .inl hk
      rw [HPE.out]
      exact ⟨O1, o1, A2, A2k, ds, rfl, by rw [HD.out, HP.out], ⟨(InvT.own0 (enc := encD) (xs := ds) (size := 4) hI (i := 1) rfl).liesB (fun _ => rfl) rfl, fun x hx => ⟨(hN2 x hx).1, (hN2 x hx).2.1, (hN2 x hx).2.2.lies⟩⟩, (InvT.own0 (enc := encV) (xs := p.2) (size := 7) hI (i := 2) rfl).liesB (fun _ => rfl) rfl, (HI0.out.back (hI.first [_, _] [_] rfl)).below⟩
end
theorem DonesV.at_ {w : World} {O : Option Addr} {ds : List DoneA} (h : DonesV w O ds) {k : Nat} (hk : k < ds.length) : ∃ b o x, O = some ⟨b, o, none⟩ ∧ b < w.heap.size ∧ ds[k]? = some x ∧ x.d.out.length ≤ x.o ∧ x.o ≤ maxLen ∧ Lies encI 1 w w.heap.size x.O x.d.out ∧
    w.cell? ⟨b, o + k * 4, none⟩ = some (.int .i64 x.d.e) ∧ w.cell? ⟨b, o + k * 4 + 1, none⟩ = some (.int .i64 x.d.n) ∧ w.cell? ⟨b, o + k * 4 + 2, none⟩ = some (.slice x.O x.d.out.length x.o) ∧ w.cell? ⟨b, o + k * 4 + 3, none⟩ = some (.int .i64 x.d.fuel) := by
  obtain ⟨b, o, x, hA, hb, hx, hc⟩ := h.lies.at_ hk
  have h1 := h.ok x (List.mem_of_getElem? hx)
  exact ⟨b, o, x, hA, hb, hx, h1.1, h1.2.1, h1.2.2, hc 0 (by omega), hc 1 (by omega), hc 2 (by omega), hc 3 (by omega)⟩
set_option maxHeartbeats 2000000 in
theorem r_DonesSame (O1 O2 : Option Addr) (o1 o2 : Nat) (d1 d2 : List DoneA) (w : World) (hd : d1.map (·.d) = d2.map (·.d)) (hl : d1.length ≤ 60) (hs : ∀ x ∈ d1, x.d.out.length < 9223372036854775807) (h1 : DonesV w O1 d1) (h2 : DonesV w O2 d2) :
    Calls Tryz.prog 26 #[.slice O1 d1.length o1, .slice O2 d2.length o2] w (Ret (.bool true) w) := by
  have hlen : d2.length = d1.length := by have := congrArg List.length hd; simpa using this.symm
  rw [hlen]
  have H1 := Lib.hid h1
  have H2 := Lib.hid h2
  have HD := Lib.hid hd
  have HS := Lib.hid hs
  have HLE := Lib.hid hlen
  clear h1 h2 hd hs hlen
  have hI := Inv.start w
  go_enter Tryz.func26, Tryz.ntmps26
  go_wp2_with fail
  go_loopw [5, 13] (fun _ v wr => ∃ k : Nat, v = .int .i64 k ∧ k ≤ d1.length ∧ Inv w [] wr) (fun _ v _ => (d1.length - intOf v).toNat)
  case atStart => exact ⟨0, rfl, Nat.zero_le _, hI⟩
  case round =>
    clear hI
    obtain ⟨k, rfl, hk, hI⟩ := hrel
    rcases Nat.lt_or_ge k d1.length with hlt | hge
    · obtain ⟨b, o, x, rfl, hb, hx, a1, a2, a3, r0, r1, r2, r3⟩ := (H1.out.grow hI.below).at_ hlt
      obtain ⟨b', o', y, rfl, hb', hy, a1', a2', a3', s0, s1, s2, s3⟩ := (H2.out.grow hI.below).at_ (k := k) (by rw [HLE.out]; exact hlt)
      have hxy : x.d = y.d := by
        have h1 := congrArg (fun l => l[k]?) HD.out
        simp only [List.getElem?_map, hx, hy, Option.map_some, Option.some.injEq] at h1
        exact h1
      obtain ⟨Ox, ox, dx⟩ := x
      obtain ⟨Oy, oy, dy⟩ := y
      dsimp only at hxy r0 r1 r2 r3 s0 s1 s2 s3 a3 a3'
      subst hxy
      have HA := Lib.hid a3
      have HB := Lib.hid a3'
      have hsx := HS.out _ (List.mem_of_getElem? hx)
      dsimp only at hsx
      have hki : (k : Int) < d1.length := by omega
      clear a1 a2 a3 a1' a2' a3' hx hy
      go_wp2_with fail
      (refine wp_region_kept (w0 := wr) (bs := []) (by kernel_rfl) (by kernel_rfl) (Kept.mk0 bel) ?_; (repeat (first | go_big_quiet_skip | (go_big_quiet_want; first | (refine BigFrame.quiet_move _ rfl ?_; (simp only [Act.put, Act.eval, n6, n7, n8, n9, n10, n5, n3, n4]); go_big_quiet_on) | (refine BigFrame.quiet_assign _ rfl ?_; (simp only [Act.put, Act.eval, n6, n7, n8, n9, n10, n5, n3, n4]); go_big_quiet_on) | (apply quiet_call; (focus (intro W; go_simp; constructor <;> with_reducible rfl)); (focus (intro W hW; first | (go_at_call 22; (with_reducible refine (r_DoneSame Ox Oy ox oy dx _ hsx ((HA.out.below hW.below).more hW.below.size) ((HB.out.below hW.below).more hW.below.size)).mono ?_); intro e w1 hr; exact hW.ret hr))); (simp only [Act.put, Act.eval, n6, n7, n8, n9, n10, n5, n3, n4]); go_big_quiet_on) | (apply quiet_run; (focus (intro W hW; obtain ⟨hB, hS, hC, hF⟩ := hW; clear hC hF; (try simp only [List.length_cons, List.length_nil] at hS); have t0 := (hB.cell (p := ⟨b, o + k * 4, none⟩) hb).trans r0; have t1 := (hB.cell (p := ⟨b, o + k * 4 + 1, none⟩) hb).trans r1; have t2 := (hB.cell (p := ⟨b, o + k * 4 + 2, none⟩) hb).trans r2; have t3 := (hB.cell (p := ⟨b, o + k * 4 + 3, none⟩) hb).trans r3; have u0 := (hB.cell (p := ⟨b', o' + k * 4, none⟩) hb').trans s0; have u1 := (hB.cell (p := ⟨b', o' + k * 4 + 1, none⟩) hb').trans s1; have u2 := (hB.cell (p := ⟨b', o' + k * 4 + 2, none⟩) hb').trans s2; have u3 := (hB.cell (p := ⟨b', o' + k * 4 + 3, none⟩) hb').trans s3; go_simp; first | done | with_reducible rfl)); (simp only [Act.put, Act.eval, n6, n7, n8, n9, n10, n5, n3, n4]); go_big_quiet_on)))); refine wpQuiet_nil ?_; intro w2 hW; obtain ⟨hB, hS, hC, hF⟩ := hW; clear hC hF; (try simp only [List.length_cons, List.length_nil] at hS); have t0 := (hB.cell (p := ⟨b, o + k * 4, none⟩) hb).trans r0; have t1 := (hB.cell (p := ⟨b, o + k * 4 + 1, none⟩) hb).trans r1; have t2 := (hB.cell (p := ⟨b, o + k * 4 + 2, none⟩) hb).trans r2; have t3 := (hB.cell (p := ⟨b, o + k * 4 + 3, none⟩) hb).trans r3; have u0 := (hB.cell (p := ⟨b', o' + k * 4, none⟩) hb').trans s0; have u1 := (hB.cell (p := ⟨b', o' + k * 4 + 1, none⟩) hb').trans s1; have u2 := (hB.cell (p := ⟨b', o' + k * 4 + 2, none⟩) hb').trans s2; have u3 := (hB.cell (p := ⟨b', o' + k * 4 + 3, none⟩) hb').trans s3)
      replace hI := hI.on hB
      clear t0 t1 t2 t3 u0 u1 u2 u3
      go_wp2_with fail
      go_roundw
      case rel => exact ⟨k + 1, by go_num, by omega, hI⟩
      case measure => simp [intOf]; omega
    · have hdk : decide (k < d1.length) = false := by simp; omega
      go_wp2_with fail
      go_returns
      exact Ret.bool rfl hI.below
end Go.Proofs.YthmpnnfejghhfaaGreatDoor
