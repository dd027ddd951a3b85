/- What the parts say: The reference's step: the numbers of its switch. Conditions: none. -/
import Derived.Test.YthmpnnfejghhfaaGreatDoorP24
import Derived.Test.YthmpnnfejghhfaaGreatDoorP25
import Derived.Test.YthmpnnfejghhfaaGreatDoorP04
import Derived.Deep.CutBlock
import Derived.Test.YthmpnnfejghhfaaGreatDoorP27
import Derived.Test.YthmpnnfejghhfaaGreatDoorP26
set_option linter.unusedVariables false
set_option linter.unusedSimpArgs false
namespace Go.Proofs.YthmpnnfejghhfaaGreatDoor
theorem az199 {P : Prop} (h : P := by
  unfold swR at hI; refine am205 ?_; clear hF; intros; have HK := Lib.hid hK; clear hK
  conv => arg 2; whnf
  have cF := hI.facts; (try simp only [mm] at cF)
  go_wp2_with (first | (go_at_call 59; (with_reducible refine (r_Calc _ _ _ _).mono ?_); rintro e w1 ⟨rfl, rfl⟩) | ((with_reducible refine at_store ?_); first | (refine listI rfl fun K hK => wpI_store1 _ _ _ rfl hI rfl 3 rfl rfl rfl (by simp) (by kernel_rfl) fun w' hI' => hK _ _ ?_; clear hK K; (try clear hb); refine am92 ?_; clear hI hI'; (try clear cF); intro hI cF)) | fail)
  refine HK.out _ _ ?_ hI; unfold FrSw
  (repeat apply Exists.intro)
  rfl) : P := h
theorem am109 {P Q : Prop} (k : Q) (h : Hq Q → P := by (intro k_; (refine tk 3 ?_; (try simp only [np, Act.put])); (refine tk 4 ?_; (try simp only [np, Act.put])); (refine tk 5 ?_; (try simp only [np, Act.put])); (refine tk 6 ?_; (try simp only [np, Act.put])); (refine tk 7 ?_; (try simp only [np, Act.put])); (refine tk 8 ?_; (try simp only [np, Act.put])); (refine tk 9 ?_; (try simp only [np, Act.put])); exact k_.out)) : P := h ⟨k⟩
open Go.RowKit
set_option maxRecDepth 100000
set_option maxRecDepth 1000000 in
set_option maxHeartbeats 8000000 in
theorem r_sw3 (R : Ending → World → Prop) (K : Act → World → Prop) (mc : Array Value) (w wc : World) (k : Nat) (a b : Nat) (c : Int) (x y z : Val) (gM gR gI gA gB gC gT gV : Nat)
    (hI : InvT (fun _ => False) w (swR gM gR gI gV gA gB gC mc 3 a b c Val.zero x y z []) wc)
    (hK : ∀ a' w', FrSw mc k gM gR gI gA gB gC gT gV 0 1 true a' → InvT (fun _ => False) w (swR gM gR gI gV gA gB gC mc 3 a b c (Val.mk false (calc0 0 y.n z.n) Key.zero) x y z []) w' → K a' w')
    {fr : Act} (hF : FrOp mc k gM gR gI gA gB gC gT gV 3 fr) : Code.wp Tryz.prog swCode (Exit.then K (bodyPost Tryz.prog Tryz.f31 R)) fr wc := by
  exact az199
set_option maxRecDepth 1000000 in
set_option maxHeartbeats 8000000 in
theorem r_sw4 (R : Ending → World → Prop) (K : Act → World → Prop) (mc : Array Value) (w wc : World) (k : Nat) (a b : Nat) (c : Int) (x y z : Val) (gM gR gI gA gB gC gT gV : Nat)
    (hI : InvT (fun _ => False) w (swR gM gR gI gV gA gB gC mc 4 a b c Val.zero x y z []) wc)
    (hK : ∀ a' w', FrSw mc k gM gR gI gA gB gC gT gV 0 1 true a' → InvT (fun _ => False) w (swR gM gR gI gV gA gB gC mc 4 a b c (Val.mk false (calc0 1 y.n z.n) Key.zero) x y z []) w' → K a' w')
    {fr : Act} (hF : FrOp mc k gM gR gI gA gB gC gT gV 4 fr) : Code.wp Tryz.prog swCode (Exit.then K (bodyPost Tryz.prog Tryz.f31 R)) fr wc := by
  exact az199
end Go.Proofs.YthmpnnfejghhfaaGreatDoor
namespace Go.Proofs.YthmpnnfejghhfaaGreatDoor
open Go.RowKit
set_option maxRecDepth 100000
set_option maxRecDepth 1000000 in
set_option maxHeartbeats 8000000 in
theorem r_sw5 (R : Ending → World → Prop) (K : Act → World → Prop) (mc : Array Value) (w wc : World) (k : Nat) (a b : Nat) (c : Int) (x y z : Val) (gM gR gI gA gB gC gT gV : Nat)
    (hI : InvT (fun _ => False) w (swR gM gR gI gV gA gB gC mc 5 a b c Val.zero x y z []) wc)
    (hK : ∀ a' w', FrSw mc k gM gR gI gA gB gC gT gV 0 1 true a' → InvT (fun _ => False) w (swR gM gR gI gV gA gB gC mc 5 a b c (Val.mk false (calc0 2 y.n z.n) Key.zero) x y z []) w' → K a' w')
    {fr : Act} (hF : FrOp mc k gM gR gI gA gB gC gT gV 5 fr) : Code.wp Tryz.prog swCode (Exit.then K (bodyPost Tryz.prog Tryz.f31 R)) fr wc := by
  exact az199
set_option maxRecDepth 1000000 in
set_option maxHeartbeats 8000000 in
theorem r_sw7 (R : Ending → World → Prop) (K : Act → World → Prop) (mc : Array Value) (w wc : World) (k : Nat) (a b : Nat) (c : Int) (x y z : Val) (gM gR gI gA gB gC gT gV : Nat)
    (hI : InvT (fun _ => False) w (swR gM gR gI gV gA gB gC mc 7 a b c Val.zero x y z []) wc)
    (hK : ∀ a' w', FrSw mc k gM gR gI gA gB gC gT gV 0 1 true a' → InvT (fun _ => False) w (swR gM gR gI gV gA gB gC mc 7 a b c (Val.mk false (calc0 3 y.n z.n) Key.zero) x y z []) w' → K a' w')
    {fr : Act} (hF : FrOp mc k gM gR gI gA gB gC gT gV 7 fr) : Code.wp Tryz.prog swCode (Exit.then K (bodyPost Tryz.prog Tryz.f31 R)) fr wc := by
  exact az199
end Go.Proofs.YthmpnnfejghhfaaGreatDoor
namespace Go.Proofs.YthmpnnfejghhfaaGreatDoor
open Go.RowKit
set_option maxRecDepth 100000
set_option maxRecDepth 1000000 in
set_option maxHeartbeats 8000000 in
theorem r_sw17 (R : Ending → World → Prop) (K : Act → World → Prop) (mc : Array Value) (w wc : World) (k : Nat) (a b : Nat) (c : Int) (x y z : Val) (gM gR gI gA gB gC gT gV : Nat) (cn : Nat) (r : Int)
    (hI : InvT (fun _ => False) w (swR gM gR gI gV gA gB gC mc 17 a b c Val.zero x y z []) wc)
    (hc : c = cn)
    (hc6 : cn < 6)
    (hv : (#[.int .i64 (truthOf y.is), .int .i64 y.key.perm, .int .i64 y.key.base, .int .i64 y.key.len, .int .i64 y.key.pos, .int .i64 y.key.tag] : Array Value)[cn]? = some (.int .i64 r))
    (hK : ∀ a' w', FrSw mc k gM gR gI gA gB gC gT gV 0 1 true a' → InvT (fun _ => False) w (swR gM gR gI gV gA gB gC mc 17 a b c (Val.mk false (r) Key.zero) x y z []) w' → K a' w')
    {fr : Act} (hF : FrOp mc k gM gR gI gA gB gC gT gV 17 fr) : Code.wp Tryz.prog swCode (Exit.then K (bodyPost Tryz.prog Tryz.f31 R)) fr wc := by
  unfold swR at hI; refine am205 ?_; clear hF; intros; have HK := Lib.hid hK; clear hK
  subst hc
  have hcz : (cn : Int) < 6 := (by omega)
  conv => arg 2; whnf
  have cF := hI.facts; (try simp only [mm] at cF)
  go_wp2_with fail
  (refine wp_region_K [2, 5] (by kernel_rfl) hI fun w' hI' hHeld => ?_; (try clear hb); refine am92 ?_; clear hI hI'; (try clear cF); intro hI cF)
  refine wpAnyH_swap (i := 2) (o := ?oX) (o' := ⟨some 260, .pick (.tmp 259) (.const (.int .i64 1)) (.const (.int .i64 0)), 3, "", #[{ on := 1, ground := Ground.data }], none⟩) (ops' := ?opsX) ?hX1 ?hX2 ?hX3 ?hX4 ?hX5 ?hX6 ?hX7 _ _ _ _ hHeld ?mainX
  case hX1 => rfl
  case hX2 => rfl
  case hX3 => rfl
  case hX4 => kernel_rfl
  case hX5 => rfl
  case hX6 => exact fun K a w _ h => truth_pick h
  case hX7 => exact fun a w => pick_asks
  simp only [List.setIfInBounds_toArray, List.set_cons_succ, List.set_cons_zero]; (refine tk 0 ?_; (try simp only [np, Act.put])); (refine tk 1 ?_; (try simp only [np, Act.put]))
  (refine takeH (i := 2) rfl (by kernel_rfl) (by kernel_rfl) (by kernel_rfl) (fun _ _ _ _ h => h) (by rfl) (by assumption) ?_; refine' ⟨.int .i64 (truthOf y.is), ?_, ?_⟩; (focus (intro w hSw; go_simp; cases y.is <;> rfl)); (try simp only [Act.put, List.setIfInBounds_toArray, List.set_cons_zero, List.set_cons_succ]))
  refine am109 ?_; (refine tk 10 ?_; (try simp only [np, Act.put])); refine am148 ?_; (refine tk 14 ?_; (try simp only [np, Act.put])); (refine tk 15 ?_; (try simp only [np, Act.put])); (refine tk 16 ?_; (try simp only [np, Act.put])); (refine tk 17 ?_; (try simp only [np, Act.put])); (refine tk 19 ?_; (try simp only [np, Act.put])); (refine tk 20 ?_; (try simp only [np, Act.put])); refine oneH (i := 18) (by kernel_rfl) rfl (fun K hK => ?_); (refine stepI rfl (wpI_sliceN _ _ _ 1 _ (.int .i64 0) #[.int .i64 (truthOf y.is), .int .i64 y.key.perm, .int .i64 y.key.base, .int .i64 y.key.len, .int .i64 y.key.pos, .int .i64 y.key.tag] rfl hI Tryz.underlying29 (by kernel_rfl) (by decide) (by decide) (by kernel_rfl) fun gx w' hI' hb => hK.out _ _ (hI'.held (by simp)) (fun hHeld => ?_)); clear hK K; (try clear hb); refine am103 ?_; clear hI hI'; (try clear cF); intro hI cF); (refine tk 21 ?_; (try simp only [np, Act.put])); refine oneH (i := 22) (by kernel_rfl) rfl (fun K hK => ?_)
  refine stepI rfl (wpI_run (v := .int .i64 r) (by go_simp; have hq := hv; rw [List.getElem?_toArray, List.getElem?_eq_getElem (by simpa using hc6)] at hq; exact Option.some.inj hq) (hK.out _ _ hHeld fun hHeld => ?_))
  clear hK K; (try simp only [Act.put, List.setIfInBounds_toArray, List.set_cons_zero, List.set_cons_succ]); (refine tk 23 ?_; (try simp only [np, Act.put])); refine oneH (i := 24) (by kernel_rfl) rfl (fun K hK => ?_)
  (refine stepI rfl (wpI_store1 _ _ _ rfl hI rfl 3 rfl rfl rfl (by decide) (by kernel_rfl) fun w' hI' => hK.out _ _ (hI'.held (by simp)) (fun hHeld => ?_)); clear hK K; (try clear hb); refine am103 ?_; clear hI hI'; (try clear cF); intro hI cF)
  refine wpAnyH_done (by kernel_rfl) ?_ _; clear hHeld
  go_wp2_with fail
  refine HK.out _ _ ?_ (hI.first [_, _, _, _, _, _, _] [_] rfl); unfold FrSw
  (repeat apply Exists.intro)
  rfl
end Go.Proofs.YthmpnnfejghhfaaGreatDoor
