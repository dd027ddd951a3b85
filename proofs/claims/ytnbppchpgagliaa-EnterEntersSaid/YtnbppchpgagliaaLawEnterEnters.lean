/- The law EnterEnters: Enter and Check return what the reference returns, for all arguments. Conditions: none. -/
import Derived.Test.YtnbppchpgagliaaEnterR
import Derived.Test.YtnbppchpgagliaaMachQ
import Derived.Test.YtnbppchpgagliaaLaw
import Derived.ChangeMaps5

namespace Go.Proofs.Ytnbppchpgagliaa
open Go.ChangeShapes Go.WideShapes Go.ChangeAt Go.RowKit
set_option linter.unusedVariables false
set_option linter.unusedSimpArgs false
set_option maxRecDepth 100000

theorem enterF_lens (xs : List Val) (es : List Entry) (s : ByteArray) (l : List Int) : (enterF xs es s l).1.mem.length < 9223372036854775807 ∧ (enterF xs es s l).1.stack.length < 9223372036854775807 ∧ (enterF xs es s l).1.out.length < 9223372036854775807 := by
  have lt0 : (0 : Nat) < 9223372036854775807 := by decide
  unfold enterF
  split
  · exact ⟨lt0, lt0, lt0⟩
  · rename_i h0
    split
    · exact ⟨lt0, lt0, lt0⟩
    · split
      · exact ⟨lt0, lt0, lt0⟩
      · split
        · exact ⟨lt0, lt0, lt0⟩
        · have := imgE_len (xs := xs) (es := es) (by simpa using h0)
          refine ⟨?_, lt0, lt0⟩
          show xs.length < _
          omega
theorem enterE_Check_large (A : Option Addr) (n c : Nat) (w : World) (hn : 400 < n) :
    Calls Try.prog 29 #[.agg #[.slice A n c, .slice none 0 0, .slice none 0 0]] w (Ret (.int .i64 2) w) := by
  go_enter Try.func29, Try.ntmps29
  go_wp2_with (go_at_call 19; (with_reducible refine (c_mem_Check_large _ _ _ _ hn).mono ?_); intro e w1 hr; obtain ⟨rfl, hb, hc, hf, hz⟩ := hr.use; (try simp only [World.size_alloc, World.size_setCell, World.size_drew] at hz); clear hr; have c0 := fun o => hc (w.heap.size) o (by (try simp only [World.size_alloc, World.size_setCell, World.size_drew]); omega); have f0 := fun o => hf (w.heap.size) o (by (try simp only [World.size_alloc, World.size_setCell, World.size_drew]); omega); have z0 : w.heap.size < w1.heap.size := (by (try simp only [World.size_alloc, World.size_setCell, World.size_drew]); omega); clear hc hf; simp only [go_sem, World.size_alloc, *] at c0 f0)
  go_returns
  exact Ret.int rfl (by (repeat' (first | (with_reducible exact Below.refl _ _) | (with_reducible assumption) | (with_reducible refine Below.alloc ?_ ?_ _) | (with_reducible refine Below.drew ?_) | (with_reducible refine Below.setCell ?_ ?_ _) | (refine Below.trans ?_ (Below.mono (by with_reducible assumption) ?_)) | go_size)))
set_option maxHeartbeats 2000000 in
theorem enterEnters_walk (A E Ap O : Option Addr) (c e np cp o : Nat) (xs : List Val) (es : List Entry) (s : ByteArray) (l : List Int) (w : World) (he : es.length ≤ e) (he' : e ≤ maxLen) (ho : l.length ≤ maxLen)
    (hwf : ∀ (i : Nat) v, xs[i]? = some v → Val.Wf v) (hwe : ∀ (i : Nat) v, es[i]? = some v → Entry.Wf v) (hL : Lies encV 7 w w.heap.size A xs) (hM : Lies encE 11 w w.heap.size E es) (hN : Lies encI 1 w w.heap.size O l) :
    Calls Try.prog 7 #[.agg #[.slice A xs.length c, .slice Ap np cp, .slice E es.length e], .string s, .slice O l.length o] w (Ret (.bool true) w) := by
  have HW := Lib.hid hwf
  have HWE := Lib.hid hwe
  have HL := Lib.hid hL
  have HM := Lib.hid hM
  have HN := Lib.hid hN
  have h1 := fun W hL hM hN => c_enter_Enter A E Ap O c e np cp o xs es s l W (Nat.le_trans he he') ho hL hM hN
  have h2 := fun W hL hM hN => r_Enter A E Ap O c e np cp o xs es s l W he he' ho hwf hwe hL hM hN
  have hl := enterF_lens xs es s l
  generalize enterF xs es s l = r at h1 h2 hl
  obtain ⟨M, er⟩ := r
  have H1 := Lib.hid h1
  have H2 := Lib.hid h2
  have HLE := Lib.hid hl
  clear hl h1 h2 hwf hwe hL hM hN
  obtain ⟨cs, hmk⟩ := make_401
  have hK0 := Lib.hid ((KeptB.nil_ (Below.refl _ w)).more (t := 26) (cs := #[.slice A xs.length c, .slice Ap np cp, .slice E es.length e]) rfl)
  go_enter Try.func7, Try.ntmps7
  go_wp2_with (first
    | (go_at_call 26; (with_reducible refine (H1.out _ ((HL.out.below (by (repeat' (first | (with_reducible exact Below.refl _ _) | (with_reducible assumption) | (with_reducible refine Below.alloc ?_ ?_ _) | (with_reducible refine Below.drew ?_) | (with_reducible refine Below.setCell ?_ ?_ _) | (refine Below.trans ?_ (Below.mono (by with_reducible assumption) ?_)) | go_size)))).more (by ((try simp only [World.size_alloc, World.size_setCell, World.size_drew]) <;> omega))) ((HM.out.below (by (repeat' (first | (with_reducible exact Below.refl _ _) | (with_reducible assumption) | (with_reducible refine Below.alloc ?_ ?_ _) | (with_reducible refine Below.drew ?_) | (with_reducible refine Below.setCell ?_ ?_ _) | (refine Below.trans ?_ (Below.mono (by with_reducible assumption) ?_)) | go_size)))).more (by ((try simp only [World.size_alloc, World.size_setCell, World.size_drew]) <;> omega))) ((HN.out.below (by (repeat' (first | (with_reducible exact Below.refl _ _) | (with_reducible assumption) | (with_reducible refine Below.alloc ?_ ?_ _) | (with_reducible refine Below.drew ?_) | (with_reducible refine Below.setCell ?_ ?_ _) | (refine Below.trans ?_ (Below.mono (by with_reducible assumption) ?_)) | go_size)))).more (by ((try simp only [World.size_alloc, World.size_setCell, World.size_drew]) <;> omega)))).mono ?_); rintro e w1 ⟨mc1, rfl, hm1, hb1⟩; have hK1 := Lib.hid (hK0.out.on hb1); have hsz1 := hm1.size; have HO1 := Lib.hid hm1.one; have HM1 := Lib.hid hm1; clear hm1)
    | (refine wpList_store_box rfl 45 (.tmp 7) (.tmp 16) rfl (Box.new _ _ _ rfl) rfl rfl (by rw [hsz1]; first | done | kernel_rfl) (by rw [hsz1]; first | done | rfl) HO1.out ?_; intro w2 hbw2 hgw2 hzw2; have hb2 : Below w1.heap.size w1 w2 := (((Below.refl _ w1).alloc (Nat.le_refl _) _).grown hgw2 (by ((try simp only [World.size_alloc, World.size_setCell, World.size_drew]) <;> omega)) (fun k hk => by cases hk; exact Nat.le_refl _)); have HB2 := Lib.hid hbw2; have hK2 := Lib.hid (hK1.out.on hb2); have hbw := hK2.out.below; have cI := hK2.out.box 0 _ rfl |>.cell; have fI := hK2.out.box 0 _ rfl |>.frozen; have HM2 := Lib.hid (HM1.out.grow hb2); (simp only [Nat.add_zero] at cI fI); clear hgw2 hzw2 hbw2)
    | (go_at_call 27; (with_reducible refine (H2.out _ ((HL.out.below hbw).more hbw.size) ((HM.out.below hbw).more hbw.size) ((HN.out.below hbw).more hbw.size)).mono ?_); rintro e w3 ⟨mc2, rfl, hm2, hb3⟩; have hK3 := Lib.hid (hK2.out.on hb3); have HB3 := Lib.hid (HB2.out.on hb3); have HM3 := Lib.hid (HM2.out.grow hb3); have hsz2 := hm2.size; have HO2 := Lib.hid hm2.one; have HN3 := Lib.hid hm2; clear hm2)
    | (refine wpList_store_box rfl 45 (.tmp 9) (.tmp 23) rfl (Box.new _ _ _ rfl) rfl rfl (by rw [hsz2]; first | done | kernel_rfl) (by rw [hsz2]; first | done | rfl) HO2.out ?_; intro w4 hbw4 hgw4 hzw4; have hb4 : Below w3.heap.size w3 w4 := (((Below.refl _ w3).alloc (Nat.le_refl _) _).grown hgw4 (by ((try simp only [World.size_alloc, World.size_setCell, World.size_drew]) <;> omega)) (fun k hk => by cases hk; exact Nat.le_refl _)); have HC4 := Lib.hid hbw4; have HB4 := Lib.hid (HB3.out.on hb4); have hK4 := Lib.hid (hK3.out.on hb4); have HM4 := Lib.hid (HM3.out.grow hb4); have HN4 := Lib.hid (HN3.out.grow hb4); clear hgw4 hzw4 hbw4)
    | fail)
  have HI4 := Lib.hid (hK4.out.box 0 _ rfl)
  have hbx := hK4.out.below
  clear cI fI hbw
  (refine wp_region_kept_tail 16 (w0 := w4) (bs := []) (by kernel_rfl) (by kernel_rfl) (Kept.mk0 (by (repeat' (first | (with_reducible exact Below.refl _ _) | (with_reducible assumption) | (with_reducible refine Below.alloc ?_ ?_ _) | (with_reducible refine Below.drew ?_) | (with_reducible refine Below.setCell ?_ ?_ _) | (refine Below.trans ?_ (Below.mono (by with_reducible assumption) ?_)) | go_size)))) ?_; simp only [List.take_succ_cons, List.take_zero, List.drop_succ_cons, List.drop_zero]; (repeat (first | go_big_quiet_skip | (go_big_quiet_want; first | (refine quiet_load_old _ _ rfl HI4.out rfl (by rfl) (by first | with_reducible assumption | rfl) (by kernel_rfl) ?_; (simp only [Act.put, Act.eval, Array.getD_eq_getD_getElem?, List.getElem?_toArray, List.getElem?_cons_zero, List.getElem?_cons_succ, Option.getD_some, List.setIfInBounds_toArray, List.set_cons_zero, List.set_cons_succ]); go_big_quiet_on) | (refine quiet_load_old _ _ rfl HB4.out rfl (by rfl) (by first | with_reducible assumption | rfl) (by kernel_rfl) ?_; (simp only [Act.put, Act.eval, Array.getD_eq_getD_getElem?, List.getElem?_toArray, List.getElem?_cons_zero, List.getElem?_cons_succ, Option.getD_some, List.setIfInBounds_toArray, List.set_cons_zero, List.set_cons_succ]); go_big_quiet_on) | (refine quiet_load_old _ _ rfl HC4.out rfl (by rfl) (by first | with_reducible assumption | rfl) (by kernel_rfl) ?_; (simp only [Act.put, Act.eval, Array.getD_eq_getD_getElem?, List.getElem?_toArray, List.getElem?_cons_zero, List.getElem?_cons_succ, Option.getD_some, List.setIfInBounds_toArray, List.set_cons_zero, List.set_cons_succ]); go_big_quiet_on) | (refine BigFrame.quiet_move _ rfl ?_; (simp only [Act.put, Act.eval, Array.getD_eq_getD_getElem?, List.getElem?_toArray, List.getElem?_cons_zero, List.getElem?_cons_succ, Option.getD_some, List.setIfInBounds_toArray, List.set_cons_zero, List.set_cons_succ]); go_big_quiet_on) | (refine BigFrame.quiet_assign _ rfl ?_; (simp only [Act.put, Act.eval, Array.getD_eq_getD_getElem?, List.getElem?_toArray, List.getElem?_cons_zero, List.getElem?_cons_succ, Option.getD_some, List.setIfInBounds_toArray, List.set_cons_zero, List.set_cons_succ]); go_big_quiet_on) | (apply quiet_call; (focus (intro W; go_simp; constructor <;> with_reducible rfl)); (focus (intro W hW; first | (go_at_call 28; (with_reducible refine (r_MachineSame mc1 mc2 M _ (HM4.out.grow hW.below) (HN4.out.grow hW.below) HLE.out).mono ?_); intro e w1 hr; exact hW.ret hr) | (go_at_call 29; (with_reducible refine (c_enter_Check A E Ap c e np cp xs es _ ((HL.out.below (hbx.trans (hW.below.mono hbx.size))).more (Nat.le_trans hbx.size hW.below.size)) ((HM.out.below (hbx.trans (hW.below.mono hbx.size))).more (Nat.le_trans hbx.size hW.below.size))).mono ?_); intro e w1 hr; exact hW.ret hr) | (go_at_call 30; (with_reducible refine (r_EnterCheck A E Ap c e np cp xs es _ HW.out HWE.out ((HL.out.below (hbx.trans (hW.below.mono hbx.size))).more (Nat.le_trans hbx.size hW.below.size)) ((HM.out.below (hbx.trans (hW.below.mono hbx.size))).more (Nat.le_trans hbx.size hW.below.size))).mono ?_); intro e w1 hr; exact hW.ret hr))); (simp only [Act.put, Act.eval, Array.getD_eq_getD_getElem?, List.getElem?_toArray, List.getElem?_cons_zero, List.getElem?_cons_succ, Option.getD_some, List.setIfInBounds_toArray, List.set_cons_zero, List.set_cons_succ]); go_big_quiet_on) | (apply quiet_run; (focus (intro W hW; obtain ⟨hB, hS, hC, hF⟩ := hW; clear hC hF; (try simp only [List.length_cons, List.length_nil] at hS); skip; go_simp; first | done | with_reducible rfl)); (simp only [Act.put, Act.eval, Array.getD_eq_getD_getElem?, List.getElem?_toArray, List.getElem?_cons_zero, List.getElem?_cons_succ, Option.getD_some, List.setIfInBounds_toArray, List.set_cons_zero, List.set_cons_succ]); go_big_quiet_on)))); refine wpQuiet_nil ?_; intro w5 hW; obtain ⟨hB, hS, hC, hF⟩ := hW; clear hC hF; (try simp only [List.length_cons, List.length_nil] at hS); skip)
  go_wp2_with (go_at_call 29; (with_reducible refine (enterE_Check_large _ 401 _ _ (by omega)).mono ?_); intro e w6 hr; obtain ⟨rfl, hb, hc, hf, hz⟩ := hr.use; (try simp only [World.size_alloc, World.size_setCell, World.size_drew] at hz); clear hr)
  go_returns
  have hz4' := hbx.size
  exact Ret.bool rfl (by (repeat' (first | (with_reducible exact Below.refl _ _) | (with_reducible assumption) | (with_reducible refine Below.alloc ?_ ?_ _) | (with_reducible refine Below.drew ?_) | (with_reducible refine Below.setCell ?_ ?_ _) | (refine Below.trans ?_ (Below.mono (by with_reducible assumption) ?_)) | go_size)))
theorem enterEnters_open {H : Type} (enc : TypeId × Value → H) (W : World) (base : Nat) (args : Array Value) (ds : List (DataW H)) (ps : List MemPlace)
    (hval : ∀ (j : Nat) t v, Try.f7.params[j]? = some t → args[j]? = some v → Value.okWide Try.prog W .any base t v)
    (hA : DataW.TrodAll enc Try.prog W 0 (fun _ => true) true Try.f7.params.toList args.toList ds ps) (hlt : ∀ x ∈ ps, x.block < W.heap.size)
    (hsz : (DataW.weightsEach Try.prog Try.f7.params.toList ds).all (· ≤ reachBytes) = true) :
    Calls Try.prog 7 args W fun e W' => e = .returned (.bool true) ∧ Below W.heap.size W W' := by
  rw [Try.params7] at hA hval
  obtain ⟨v0, v1, v2, d0, d1, d2, p0, p1, p2, hargs, rfl, rfl, h0, h1, h2⟩ := trodAll_three hA
  subst hargs
  obtain ⟨A, c, xs, P, E, e, es, rfl, ⟨Ap, np, cp, rfl⟩, _, _, hwf, hL, he, hemax, hwe, hM⟩ := open_image (hval 0 _ v0 rfl rfl) h0
  obtain ⟨s, rfl, _, _, ws⟩ := Go.ChangeMaps.open_string Try.underlying9 (hval 1 _ v1 rfl rfl) h1
  obtain ⟨O, o, l, rfl, ho1, ho2, _, hN⟩ := open_rows (α := Int) (enc := encI) (Wf := i64) (size := 1) Try.underlying43 cells_int (by decide) (fun h => by obtain ⟨n, z, _, wf⟩ := DataW.trod_int Try.underlying3 h; exact ⟨n, i64_of_wf wf, z⟩) (fun k => rfl) (hval 2 _ v2 rfl rfl) h2
  exact (enterEnters_walk A E Ap O c e np cp o xs es s l W he hemax (Nat.le_trans ho1 ho2) hwf hwe hL hM hN).mono fun e W' hr => hr
set_option maxRecDepth 100000 in
theorem enterEnters_lifted (os : Os) (started : os.Started) (H : Type) (enc : TypeId × Value → H) :
    ReturnsInHanded {} Try.checked os 7 .any (Rows.enterEntersSpec.pre6 enc Try.prog Try.f7 [] false) (Rows.enterEntersSpec.post enc Try.prog Try.f7 false true false false) :=
  lifted (C := Try.checked) (s := Rows.enterEntersSpec) (by kernel_rfl) started (by kernel_rfl) Try.func7
    (ChangeSpec.witness6 (enc := enc) (C := Try.checked) false ⟨#[], #[.agg #[.slice none 0 0, .slice none 0 0, .slice none 0 0], .string ⟨#[]⟩, .slice none 0 0], []⟩ 12 (by kernel_rfl) (by kernel_rfl) (by kernel_rfl) (by kernel_rfl))
    (by kernel_rfl) (by kernel_rfl) rfl rfl Try.underlying4
    (fun ds h => by match ds, h with | [_, _, _], _ => exact ⟨rfl, rfl, rfl⟩)
    (fun W base args ds ps hval hA hlt hsz => enterEnters_open enc W base args ds ps hval hA hlt hsz)
theorem enterEnters_holds : Rows.EnterEntersSaid :=
  OpenClaim.holds_of_wide 7 Try.f7 rfl rfl rfl rfl rfl rfl rfl ⟨rfl, rfl, rfl, rfl, rfl⟩ rfl rfl rfl rfl rfl (by kernel_rfl) Try.func7 (by kernel_rfl)
    (of_decide_eq_true (by kernel_rfl)) (by unfold Func.isWrapper; first | (rw [if_pos (by decide +kernel)]; kernel_rfl) | (rw [if_neg (by decide +kernel)]; exact ⟨rfl, rfl⟩))
    (fun os started H enc _ => enterEnters_lifted os started H enc)
#print axioms enterEnters_holds
end Go.Proofs.Ytnbppchpgagliaa
